/-
  Contracts: charts and counts that fit; the sheet of a performer; SheetOf, the program's and the reference's.
-/
import Derived.Test.YtbgbcajcajaocaaGr
import Derived.Test.YtbgbcajcajaocaaSht
import Derived.Test.YtbgbcajcajaocaaCh
import Derived.Test.YtbgbcajcajaocaaOff
import Derived.Test.YtbgbcajcajaocaaApp
import Derived.StillTailTactics
import Derived.Deep.RegionLaw
namespace Go.Proofs.Ytbgbcajcajaocaa
open Go.RowKit Go.Sort

/-- Charts and counts that sheets are made of. -/
def rwOk (f : Nat) (L : List Sp) : Bool := chOk L && decide (L.length = f)
def row0 (G : List (List Sp)) : Nat := (G.getD 0 []).length
def acOk (G : List (List Sp)) (C : List Int) : Bool := (G.all (rwOk (row0 G)) && inR G.length 1 9) && (decide (C.length + 1 = G.length) && C.all fun n => inR n 1 64)
theorem acOk_iff {G : List (List Sp)} {C : List Int} : acOk G C = true ↔ G.all (rwOk (row0 G)) = true ∧ (1 ≤ G.length ∧ G.length ≤ 9) ∧ C.length + 1 = G.length ∧ (C.all fun n => inR n 1 64) = true := by
  rw [acOk, Bool.and_eq_true, Bool.and_eq_true, Bool.and_eq_true, inR_iff, decide_eq_true_eq]
  constructor
  · rintro ⟨⟨h1, h2⟩, h3, h4⟩; exact ⟨h1, by omega, h3, h4⟩
  · rintro ⟨h1, h2, h3, h4⟩; exact ⟨⟨h1, by omega⟩, h3, h4⟩
theorem ac_row {G : List (List Sp)} {C : List Int} (h : acOk G C = true) {k : Nat} {L : List Sp} (hk : G[k]? = some L) : chOk L = true ∧ L.length = row0 G ∧ 1 ≤ row0 G ∧ row0 G ≤ 12 := by
  have h1 := all_at (acOk_iff.1 h).1 hk
  rw [rwOk, Bool.and_eq_true, decide_eq_true_eq] at h1
  have h2 := (chOk_iff.1 h1.1).1
  exact ⟨h1.1, h1.2, by omega, by omega⟩
theorem row0_at {G : List (List Sp)} {L : List Sp} (h : G[0]? = some L) : row0 G = L.length := by simp [row0, List.getD, h]
/-- The rows of performer j's sheet. -/
def soTo (G : List (List Sp)) (C : List Int) (j : Nat) : Nat → List Rw
  | 0 => []
  | k + 1 => soTo G C j k ++ [⟨C.getD k 0, (G.getD (k + 1) []).getD j ⟨0, 0⟩⟩]
theorem soTo_len (G : List (List Sp)) (C : List Int) (j : Nat) : ∀ k, (soTo G C j k).length = k
  | 0 => rfl
  | k + 1 => by rw [soTo, List.length_append, soTo_len G C j k]; rfl
theorem soTo_succ {G : List (List Sp)} {C : List Int} {j k : Nat} {L : List Sp} {s : Sp} {n : Int} (hn : C[k]? = some n) (hL : G[k + 1]? = some L) (hs : L[j]? = some s) : soTo G C j (k + 1) = soTo G C j k ++ [⟨n, s⟩] := by
  simp [soTo, List.getD, hn, hL, hs]
def soS (G : List (List Sp)) (j : Nat) : Sp := (G.getD 0 []).getD j ⟨0, 0⟩
theorem soS_at {G : List (List Sp)} {j : Nat} {L : List Sp} {s : Sp} (hL : G[0]? = some L) (hs : L[j]? = some s) : soS G j = s := by simp [soS, List.getD, hL, hs]
def sfOk (G : List (List Sp)) (C : List Int) (p : Int) : Bool := acOk G C && inR p 0 ((row0 G : Int) - 1)
def sfP (G : List (List Sp)) (C : List Int) (p : Int) : Int := if sfOk G C p then p else 0
def sfS (G : List (List Sp)) (C : List Int) (p : Int) : Sp := if sfOk G C p then soS G p.toNat else ⟨0, 0⟩
def sfV (G : List (List Sp)) (C : List Int) (p : Int) : List Rw := if sfOk G C p then soTo G C p.toNat C.length else []
/-- A call hands back a sheet in memory of its own, and a bool. -/
def RetShB (w : World) (P : Int) (S : Sp) (V : List Rw) (ok : Bool) (e : Ending) (w' : World) : Prop :=
  ∃ A' c', e = .returned (.tuple #[.agg #[.int .i64 P, .int .i64 S.x, .int .i64 S.y, .slice A' V.length c'], .bool ok]) ∧ w'.ownsRow w.heap.size 83 3 (.slice A' V.length c') V.length (rows V) ∧ Below w.heap.size w w'
theorem own_othS {w : World} {base : Nat} {e : TypeId} {size : Nat} {v u : Value} {n : Nat} {xs : List Value} {p : Addr} (h : w.ownsRow base e size v n xs) (hne : v.ownBlock ≠ some p.block) : (w.setCell p u).ownsRow base e size v n xs := by
  cases hx : v.ownBlock with
  | none => exact own_same h (fun g hg => by rw [hx] at hg; cases hg)
  | some b => exact own_same h (fun g hg => heap_setCell_other w p g u (fun e => hne (by rw [hg, e])))

theorem keep3S {W w' : World} {p1 p2 p3 : Addr} {v1 v2 v3 : Value} (hq : Below W.heap.size W w') (h : W.cell? p1 = some v1 ∧ W.cell? p2 = some v2 ∧ W.cell? p3 = some v3) : w'.cell? p1 = some v1 ∧ w'.cell? p2 = some v2 ∧ w'.cell? p3 = some v3 :=
  ⟨keep1 hq h.1, keep1 hq h.2.1, keep1 hq h.2.2⟩
theorem keepS3 {w : World} {bx o b1 b2 b3 o1 o2 o3 : Nat} {A6 v1 v2 v3 : Value} (h : w.cell? ⟨b1, o1, none⟩ = some v1 ∧ w.cell? ⟨b2, o2, none⟩ = some v2 ∧ w.cell? ⟨b3, o3, none⟩ = some v3) (h1 : b1 < bx) (h2 : b2 < bx ∧ b3 < bx) : (w.setCell ⟨bx, o, none⟩ A6).cell? ⟨b1, o1, none⟩ = some v1 ∧ (w.setCell ⟨bx, o, none⟩ A6).cell? ⟨b2, o2, none⟩ = some v2 ∧ (w.setCell ⟨bx, o, none⟩ A6).cell? ⟨b3, o3, none⟩ = some v3 :=
  ⟨(World.cell?_setCell_far _ _ _ _ (by show bx ≠ b1; omega)).trans h.1, (World.cell?_setCell_far _ _ _ _ (by show bx ≠ b2; omega)).trans h.2.1, (World.cell?_setCell_far _ _ _ _ (by show bx ≠ b3; omega)).trans h.2.2⟩
/-- An append inside a region that draws: other blocks stay, none becomes the row's. -/
theorem step_append_keepE {P : Program} (w W : World) {ops : Array Oper} {o : Oper} {a : Act} {K : Act → World → Prop} {Q : Exit → Act → World → Prop} {E : Prop} (hgd : o.guard = none) (s x : Operand) (t : TypeId)
    (ho : o.op = .call { callee := .builtin .append, args := #[s, x], argTypes := #[t, t] })
    (base : Nat) (e : TypeId) (i : TypeInfo) (z : Value) (size bytes : Nat) (ht : P.underlying t = some (.slice e)) (hi : P.info? e = some i) (hz : i.zero = some z)
    (hsize : i.size = size) (hby : i.bytes = bytes) (hzs : z.cells.size = size) (hsz : 0 < size)
    (v : Value) (n : Nat) (xs : List Value) (hs : a.eval s = v) (hown : w.ownsRow base e size v n xs)
    (news : Array Value) (te : TypeId) (c : Nat) (hx : a.eval x = .slice (some ⟨w.heap.size, 0, none⟩) 1 c) (hW : W = w.alloc (.cells news te)) (hl : news.size = size) (h1 : news.toList.all Value.oneCell' = true)
    (h63 : n ≤ 1073741824) (hbytes : bytes ≤ 65536) (hbase : base ≤ w.heap.size)
    (h : ∀ v' w', w'.ownsRow base e size v' (n + 1) (xs ++ news.toList) → Below base w w' → (∀ k, k < w.heap.size → v.ownBlock ≠ some k → w'.heap[k]? = w.heap[k]? ∧ v'.ownBlock ≠ some k) → w.heap.size < w'.heap.size → K (a.put o.dst v') w') :
    if Region.wanted o (yielded ops a.tmps) = true then Oper.wp P o a W K Q else E := by
  subst hW
  have hw : Region.wanted o (yielded ops a.tmps) = true := by simp [Region.wanted, hgd]
  rw [if_pos hw]
  have hb2 : (n + 1) * bytes ≤ 140737488355328 := Nat.le_trans (Nat.mul_le_mul (Nat.succ_le_succ h63) hbytes) (by decide)
  obtain ⟨v', w', hrun, ho', hg, _, hat⟩ := run_append_own_at (P := P) (w.alloc (.cells news te)) base t o.type e i z size bytes ht hi hz hsize hby hzs hsz v n xs (hown.alloc _) ⟨w.heap.size, 0, none⟩ 1 c news.toList (by simpa using hl)
    (by
      intro j u hu
      rw [Addr.add_lit, Nat.zero_add, cell_of_row _ w.heap.size j news te (0, 0) (heap_alloc_new w _)]
      simpa using hu)
    (fun u hu => List.all_eq_true.1 h1 u hu) (by unfold maxLen; omega) hb2 (by simp; omega)
  unfold Oper.wp execOp
  simp only [ho, resolve, invoke, builtin, Sem.run_bind, Sem.run_pure, Result.andThen_ok, List.map_toArray, List.map_cons, List.map_nil, hs, hx, hrun]
  refine h v' w' ho' (((Below.refl base w).alloc hbase _).grown hg (by simp; omega) (fun k hk => ?_)) (fun k hk hne => ⟨?_, ?_⟩) (by have := hg.size; simp at this; omega)
  · exact (hown.lt k hk).1
  · rw [hg.block k (by simp; omega) (fun e => hne e.symm)]
    exact ((Below.refl w.heap.size w).alloc (Nat.le_refl _) _).block k hk
  · rcases hat with hat | hat
    · rw [hat]; exact hne
    · rw [hat]
      intro e
      have := Option.some.inj e
      simp at this
      omega

set_option maxRecDepth 100000 in
set_option maxHeartbeats 3200000 in
theorem shCharts_any (A : Option Addr) (c : Nat) (hs : List (Hdr Sp)) (B : Option Addr) (d : Nat) (C : List Int) (w : World) (hg : Grid w A hs) (hc : Mem w B (ints C)) (hl : hs.length ≤ 1048576) (hcl : C.length ≤ 1048576) (hr : ∀ (k : Nat) (h : Hdr Sp), hs[k]? = some h → h.L.length ≤ 1048576 ∧ h.L.length ≤ h.c) : Calls Try.prog 41 #[.slice A hs.length c, .slice B C.length d] w fun e w' => e = .returned (.bool (acOk (lns hs) C)) ∧ Below w.heap.size w w' := by
  have HR := Lib.hid hr
  have HE : Hid (acOk (lns hs) C = (((lns hs).all (rwOk (row0 (lns hs))) && inR hs.length 1 9) && (decide (C.length + 1 = hs.length) && C.all fun n => inR n 1 64))) := Lib.hid (by rw [acOk, lns_len])
  clear hr
  go_enter Try.func41, Try.ntmps41
  go_wp2
  go_loopw [6, 9] (fun _ i wr => ∃ k : Nat, k ≤ hs.length ∧ i = .int .i64 k ∧ Below w.heap.size w wr ∧ Hid (((lns hs).take k).all (rwOk (row0 (lns hs))) = true)) (fun _ i _ => hs.length - (intOf i).toNat)
  case atStart => exact ⟨0, by omega, rfl, Below.refl _ _, all_take_zero _ _⟩
  case round =>
    obtain ⟨k, hk, rfl, hb, H⟩ := hrel
    by_cases hlt : k < hs.length
    · obtain ⟨h, hh⟩ := some_of_lt hlt
      obtain ⟨h0, hh0⟩ := some_of_lt (L := hs) (k := 0) (by omega)
      obtain ⟨b, off, rfl, c1⟩ := hdr_cell (hg.below hb).mem hh
      obtain ⟨b', off', e', c0⟩ := hdr_cell hg.mem hh0
      obtain ⟨rfl, rfl⟩ : b = b' ∧ off = off' := by simpa using e'
      rw [Nat.add_zero] at c0
      have C0 := Lib.hid c0
      have HM := Lib.hid ((hg.below hb).row k h hh)
      obtain ⟨r1, r2⟩ := HR.out k h hh
      have HH := Lib.hid (show Hid ((lns hs)[k]? = some h.L) from lns_at hh)
      have H0 := Lib.hid (show row0 (lns hs) = h0.L.length from row0_at (lns_at hh0))
      clear hh hh0 e' c0
      cases hch : chOk h.L
      · have HI := Lib.hid (show rwOk (row0 (lns hs)) h.L = false by simp [rwOk, hch])
        have HC := Lib.hid hch
        clear hch
        go_wp2_with fail
        refine (chGood_any _ _ h.L _ HM.out r1 r2).mono ?_
        rintro e w2 ⟨he, hq⟩
        rw [HC.out] at he
        subst he
        go_wp2_with fail
        go_ret
        exact ⟨ret_bool (by rw [HE.out, all_no HH.out HI.out]; rfl), Below.next hq hb hb.size⟩
      · have HC := Lib.hid hch
        by_cases hle : h.L.length = h0.L.length
        · have HI := Lib.hid (show rwOk (row0 (lns hs)) h.L = true by simp [rwOk, HC.out, H0.out, hle])
          have e1 : ((h.L.length : Int) != h0.L.length) = false := by rw [hle]; simp
          clear hch hle
          go_wp2_with fail
          refine (chGood_any _ _ h.L _ HM.out r1 r2).mono ?_
          rintro e w2 ⟨he, hq⟩
          rw [HC.out] at he
          subst he
          have c0 := keep1 hq (keep1 hb C0.out)
          go_wp2_with fail
          go_roundw
          case rel => exact ⟨k + 1, by omega, by go_num, Below.next hq hb hb.size, all_take_succ H HH.out HI.out⟩
          case measure => simp [intOf]; omega
        · have HI := Lib.hid (show rwOk (row0 (lns hs)) h.L = false by simp [rwOk, HC.out, H0.out, hle])
          have e1 : ((h.L.length : Int) != h0.L.length) = true := by simpa using (show ¬ (h.L.length : Int) = h0.L.length by omega)
          clear hch
          go_wp2_with fail
          refine (chGood_any _ _ h.L _ HM.out r1 r2).mono ?_
          rintro e w2 ⟨he, hq⟩
          rw [HC.out] at he
          subst he
          have c0 := keep1 hq (keep1 hb C0.out)
          go_wp2_with fail
          go_ret
          exact ⟨ret_bool (by rw [HE.out, all_no HH.out HI.out]; rfl), Below.next hq hb hb.size⟩
    · have HE2 := Lib.hid (show acOk (lns hs) C = (inR hs.length 1 9 && (decide (C.length + 1 = hs.length) && C.all fun n => inR n 1 64)) by
        rw [HE.out, all_yes H (by rw [lns_len]; omega), Bool.true_and])
      have MC := Lib.hid (hc.below hb)
      have HB := Lib.hid hb
      clear hb
      cases hn : inR hs.length 1 9
      · have HN := Lib.hid hn
        clear hn
        go_wp2_with (go_at_call 42; refine (l1In_any _ _ _ _).mono ?_; rintro e w' ⟨he, rfl⟩; rw [HN.out] at he; subst he)
        go_ret
        exact ⟨ret_bool (by rw [HE2.out, HN.out]; rfl), HB.out⟩
      · have HN := Lib.hid hn
        have hn2 := inR_iff.1 hn
        clear hn
        by_cases hcn : C.length + 1 = hs.length
        · have e1 : ((C.length : Int) == (hs.length : Int) - 1) = true := by simp; omega
          have HD := Lib.hid (show decide (C.length + 1 = hs.length) = true by simpa using hcn)
          clear hcn
          go_wp2_with (first | (go_at_call 42; refine (l1In_any _ _ _ _).mono ?_; rintro e w' ⟨he, rfl⟩; rw [HN.out] at he; subst he) | (go_at_call 73; refine (l1All_any _ _ C _ _ _ MC.out hcl).mono ?_; rintro e w' ⟨rfl, rfl⟩))
          go_ret
          exact ⟨ret_bool (by rw [HE2.out, HN.out, HD.out]; rfl), HB.out⟩
        · have e1 : ((C.length : Int) == (hs.length : Int) - 1) = false := by simp; omega
          have HD := Lib.hid (show decide (C.length + 1 = hs.length) = false by simpa using hcn)
          clear hcn
          go_wp2_with (first | (go_at_call 42; refine (l1In_any _ _ _ _).mono ?_; rintro e w' ⟨he, rfl⟩; rw [HN.out] at he; subst he) | (go_at_call 73; refine (l1All_any _ _ C _ _ _ MC.out hcl).mono ?_; rintro e w' ⟨rfl, rfl⟩))
          go_ret
          exact ⟨ret_bool (by rw [HE2.out, HN.out, HD.out]; rfl), HB.out⟩

set_option maxRecDepth 100000 in
set_option maxHeartbeats 3200000 in
theorem shOf_any (A : Option Addr) (c : Nat) (hs : List (Hdr Sp)) (B : Option Addr) (d : Nat) (C : List Int) (j : Nat) (w : World) (hg : Grid w A hs) (hc : Mem w B (ints C)) (hok : acOk (lns hs) C = true) (hj : j < row0 (lns hs)) : Calls Try.prog 43 #[.slice A hs.length c, .slice B C.length d, .int .i64 (j : Int)] w (RetSheet w j (soS (lns hs) j) (soTo (lns hs) C j C.length)) := by
  obtain ⟨i0, hi, hz0, hz1, hz2⟩ := info_parts info_row
  have hl := (acOk_iff.1 hok).2.1
  have hcl := (acOk_iff.1 hok).2.2.1
  rw [lns_len] at hl hcl
  have HROW := Lib.hid (show ∀ (k : Nat) (h : Hdr Sp), hs[k]? = some h → j < h.L.length from fun k h hh => by have := ac_row hok (lns_at hh); omega)
  obtain ⟨h0, hh0⟩ := some_of_lt (L := hs) (k := 0) (by omega)
  have hj0 := HROW.out 0 h0 hh0
  obtain ⟨s, hs0⟩ := some_of_lt hj0
  have HSS := Lib.hid (soS_at (lns_at hh0) hs0)
  obtain ⟨b0, p0, rfl, c0⟩ := hdr_cell hg.mem hh0
  obtain ⟨b1, p1, e1, c1, c2⟩ := (hg.row 0 h0 hh0).spot hs0
  rw [e1, Nat.add_zero] at c0
  have lb0 := World.block_lt_of_cell? _ _ c0
  have lb1 := World.block_lt_of_cell? _ _ c1
  clear hok hs0 hh0 e1
  go_enter Try.func43, Try.ntmps43
  go_wp2_with fail
  have BS0 : Blk ((w.alloc (.cells #[.int .i64 0, .int .i64 0, .int .i64 0, .slice none 0 0] 29)).alloc (.cells #[.int .i64 (j : Int), .int .i64 s.x, .int .i64 s.y, .slice none 0 0] 29)) (w.heap.size + 1) #[.int .i64 (j : Int), .int .i64 s.x, .int .i64 s.y, .slice none 0 0] 29 := by have h := Blk.new (w.alloc (.cells #[.int .i64 0, .int .i64 0, .int .i64 0, .slice none 0 0] 29)) #[.int .i64 (j : Int), .int .i64 s.x, .int .i64 s.y, .slice none 0 0] 29; simpa using h
  have BZ0 : Blk ((w.alloc (.cells #[.int .i64 0, .int .i64 0, .int .i64 0, .slice none 0 0] 29)).alloc (.cells #[.int .i64 (j : Int), .int .i64 s.x, .int .i64 s.y, .slice none 0 0] 29)) w.heap.size #[.int .i64 0, .int .i64 0, .int .i64 0, .slice none 0 0] 29 := (Blk.new w _ _).alloc _
  have HB0 : Below w.heap.size w ((w.alloc (.cells #[.int .i64 0, .int .i64 0, .int .i64 0, .slice none 0 0] 29)).alloc (.cells #[.int .i64 (j : Int), .int .i64 s.x, .int .i64 s.y, .slice none 0 0] 29)) := by (repeat (first | exact Below.refl _ _ | assumption | (refine Below.alloc ?_ (by first | omega | (simp; done) | (simp; omega)) _) | (refine Below.setCell ?_ (by first | omega | (simp; done) | (simp; omega)) _) | (refine Below.drew ?_) | (refine Below.drewN ?_ _) | (refine Below.next (by assumption) ?_ (by first | omega | (simp; done) | (simp; omega)))))
  have HO0 : ((w.alloc (.cells #[.int .i64 0, .int .i64 0, .int .i64 0, .slice none 0 0] 29)).alloc (.cells #[.int .i64 (j : Int), .int .i64 s.x, .int .i64 s.y, .slice none 0 0] 29)).ownsRow (w.heap.size + 2) 83 3 (.slice none 0 0) 0 (rows (soTo (lns hs) C j 0)) := World.ownsRow_nil _ _ _ _
  clear c0 c1 c2 lb0 lb1
  go_loopw [8, 9, 20] (fun _ _ i wr => ∃ (k : Nat) (rv : Value), k ≤ C.length ∧ i = .int .i64 k ∧ Blk wr (w.heap.size + 1) #[.int .i64 (j : Int), .int .i64 s.x, .int .i64 s.y, rv] 29 ∧ Blk wr w.heap.size #[.int .i64 0, .int .i64 0, .int .i64 0, .slice none 0 0] 29 ∧ wr.ownsRow (w.heap.size + 2) 83 3 rv k (rows (soTo (lns hs) C j k)) ∧ Hid (rv.ownBlock ≠ some (w.heap.size + 1)) ∧ Hid (rv.ownBlock ≠ some w.heap.size) ∧ Below w.heap.size w wr) (fun _ _ i _ => C.length - (intOf i).toNat)
  case atStart => exact ⟨0, _, by omega, rfl, BS0, BZ0, HO0, Lib.hid (by simp [Value.ownBlock]), Lib.hid (by simp [Value.ownBlock]), HB0⟩
  case round =>
    obtain ⟨k, rv, hk, rfl, hB, hZ, hown, HN1, HN2, hb⟩ := hrel
    clear BS0 BZ0 HB0 HO0
    have hBlt := hB.lt
    have hZlt := hZ.lt
    by_cases hlt : k < C.length
    · obtain ⟨n, hn⟩ := some_of_lt hlt
      obtain ⟨h, hh⟩ := some_of_lt (L := hs) (k := k + 1) (by omega)
      have hjl := HROW.out (k + 1) h hh
      obtain ⟨u, hu⟩ := some_of_lt hjl
      have HTS := Lib.hid (soTo_succ (G := lns hs) hn (lns_at hh) hu)
      obtain ⟨bc, pc, rfl, d1⟩ := (hc.below hb).int hn
      obtain ⟨b2, p2, e2, d2⟩ := hdr_cell hg.mem hh
      simp only [Option.some.injEq, Addr.mk.injEq, and_true] at e2
      obtain ⟨rfl, rfl⟩ := e2
      obtain ⟨b3, p3, e3, d3, d4⟩ := (hg.row (k + 1) h hh).spot hu
      rw [e3] at d2
      have lb2 := World.block_lt_of_cell? _ _ d2
      have lb3 := World.block_lt_of_cell? _ _ d3
      have q2 := keep1 hb d2
      have q3 := keep1 hb d3
      have q4 := keep1 hb d4
      have q1 : wr.cell? ⟨(w.heap.size + 1), 3, none⟩ = some rv := (hB.cell 3).trans rfl
      have z1 : wr.frozen? ⟨(w.heap.size + 1), 3, none⟩ = false := hB.frozen 3
      have HB := Lib.hid hB
      have HZ := Lib.hid hZ
      have HO := Lib.hid hown
      have HBE := Lib.hid hb
      clear hn hh hu d2 d3 d4 e3 hB hZ hown hb
      go_wp2_with fail
      have HO2 := Lib.hid (own_drew HO.out)
      have HRV := Lib.hid (show ∀ b, b < w.heap.size → rv.ownBlock = some b → False from fun b hb e => by have := (HO.out.lt b e).1; omega)
      have HS1 := Lib.hid (show wr.cell? ⟨(w.heap.size + 1), 3, none⟩ = some rv ∧ wr.cell? ⟨b0, p0 + (k + 1), none⟩ = some (.slice (some ⟨b3, p3, none⟩) h.L.length h.c) ∧ wr.cell? ⟨b3, p3 + j * 2, none⟩ = some (.int .i64 u.x) ∧ wr.cell? ⟨b3, p3 + j * 2 + 1, none⟩ = some (.int .i64 u.y) from ⟨q1, q2, q3, q4⟩)
      have w1e : IntKind.i64.wrap ((k : Int) + 1) = (k : Int) + 1 := IntWalk.i64_in _ (by omega)
      have i1 : (k : Int) + 1 < (hs.length : Int) := by omega
      have i2 : (0 : Int) ≤ (k : Int) + 1 := by omega
      have i3 : ((k : Int) + 1).toNat = k + 1 := by omega
      go_region_law
        ((refine step_append_keepE wr.drew _ rfl (.tmp 26) (.tmp 37) 27 rfl (w.heap.size + 2) 83 i0 (.agg #[.int .i64 0, .int .i64 0, .int .i64 0]) 3 24 Try.underlying27 hi hz0 hz1 hz2 rfl (by omega) _ _ _ rfl HO2.out #[.int .i64 n, .int .i64 u.x, .int .i64 u.y] 83 1 rfl rfl rfl rfl (by omega) (by omega) (by show (w.heap.size + 2) ≤ wr.heap.size; omega) ?_; intro v' w6 hown' hb6 hkeep hsz6; obtain ⟨A6, q6, rfl⟩ := own_form hown'; obtain ⟨kb1, kb2⟩ := hkeep (w.heap.size + 1) (by simp; omega) HN1.out; have hB6 : Blk w6 (w.heap.size + 1) #[.int .i64 (j : Int), .int .i64 s.x, .int .i64 s.y, rv] 29 := kb1.trans HB.out; have z6 : w6.frozen? ⟨(w.heap.size + 1), 3, none⟩ = false := Blk.frozen hB6 3; have c6 : w6.cell? ⟨(w.heap.size + 1), 3, none⟩ = some rv := (Blk.cell hB6 3).trans rfl; have hbl6 : (w.heap.size + 1) < w6.heap.size := Blk.lt hB6))
      all_goals
        go_wp2_with fail
        go_roundw
        case rel =>
          obtain ⟨kz1, kz2⟩ := hkeep w.heap.size (by simp; omega) HN2.out
          refine ⟨k + 1, .slice A6 (k + 1) q6, by omega, by go_num, hB6.set 3 _, (show Blk w6 w.heap.size _ _ from kz1.trans HZ.out).other (by omega) _, own_othS (by rw [HTS.out, rows_snoc]; exact hown') kb2, Lib.hid kb2, Lib.hid kz2, ((HBE.out.drew).trans (hb6.mono (by omega))).setCell (by (try dsimp only); omega) _⟩
        case measure => simp [intOf]; omega
    · obtain rfl : k = C.length := by omega
      obtain ⟨Ar, cr, rfl⟩ := own_form hown
      have bo0 : wr.cell? ⟨(w.heap.size + 1), 0, none⟩ = some (.int .i64 (j : Int)) := (hB.cell 0).trans rfl
      have bo1 : wr.cell? ⟨(w.heap.size + 1), 1, none⟩ = some (.int .i64 s.x) := (hB.cell 1).trans rfl
      have bo2 : wr.cell? ⟨(w.heap.size + 1), 2, none⟩ = some (.int .i64 s.y) := (hB.cell 2).trans rfl
      have bo3 : wr.cell? ⟨(w.heap.size + 1), 3, none⟩ = some (.slice Ar C.length cr) := (hB.cell 3).trans rfl
      have z0 : wr.cell? ⟨w.heap.size, 0, none⟩ = some (.int .i64 0) := (hZ.cell 0).trans rfl
      have z1 : wr.cell? ⟨w.heap.size, 1, none⟩ = some (.int .i64 0) := (hZ.cell 1).trans rfl
      have z2 : wr.cell? ⟨w.heap.size, 2, none⟩ = some (.int .i64 0) := (hZ.cell 2).trans rfl
      have z3 : wr.cell? ⟨w.heap.size, 3, none⟩ = some (.slice none 0 0) := (hZ.cell 3).trans rfl
      have y0 := hZ.frozen 0
      have y1 := hZ.frozen 1
      have y2 := hZ.frozen 2
      have y3 := hZ.frozen 3
      have HO := Lib.hid hown
      have HZ := Lib.hid hZ
      have HBE := Lib.hid hb
      clear hB hown hZ hb
      go_wp2_with fail
      have hOF : ((((wr.setCell ⟨w.heap.size, 0, none⟩ (.int .i64 (j : Int))).setCell ⟨w.heap.size, 1, none⟩ (.int .i64 s.x)).setCell ⟨w.heap.size, 2, none⟩ (.int .i64 s.y)).setCell ⟨w.heap.size, 3, none⟩ (.slice Ar C.length cr)).ownsRow (w.heap.size + 2) 83 3 (.slice Ar C.length cr) C.length (rows (soTo (lns hs) C j C.length)) := own_othS (own_othS (own_othS (own_othS HO.out HN2.out) HN2.out) HN2.out) HN2.out
      have HZZ : Blk ((((wr.setCell ⟨w.heap.size, 0, none⟩ (.int .i64 (j : Int))).setCell ⟨w.heap.size, 1, none⟩ (.int .i64 s.x)).setCell ⟨w.heap.size, 2, none⟩ (.int .i64 s.y)).setCell ⟨w.heap.size, 3, none⟩ (.slice Ar C.length cr)) w.heap.size #[.int .i64 (j : Int), .int .i64 s.x, .int .i64 s.y, .slice Ar C.length cr] 29 := (((HZ.out.set 0 _).set 1 _).set 2 _).set 3 _
      have hbF : Below w.heap.size w ((((wr.setCell ⟨w.heap.size, 0, none⟩ (.int .i64 (j : Int))).setCell ⟨w.heap.size, 1, none⟩ (.int .i64 s.x)).setCell ⟨w.heap.size, 2, none⟩ (.int .i64 s.y)).setCell ⟨w.heap.size, 3, none⟩ (.slice Ar C.length cr)) := (((HBE.out.setCell (by (try dsimp only); omega) _).setCell (by (try dsimp only); omega) _).setCell (by (try dsimp only); omega) _).setCell (by (try dsimp only); omega) _
      clear bo0 bo1 bo2 bo3 z0 z1 z2 z3 y0 y1 y2 y3
      generalize ((((wr.setCell ⟨w.heap.size, 0, none⟩ (.int .i64 (j : Int))).setCell ⟨w.heap.size, 1, none⟩ (.int .i64 s.x)).setCell ⟨w.heap.size, 2, none⟩ (.int .i64 s.y)).setCell ⟨w.heap.size, 3, none⟩ (.slice Ar C.length cr)) = WF at *
      have C0 : WF.cell? ⟨w.heap.size, 0, none⟩ = some (.int .i64 (j : Int)) := (HZZ.cell 0).trans rfl
      have C1 : WF.cell? ⟨w.heap.size, 1, none⟩ = some (.int .i64 s.x) := (HZZ.cell 1).trans rfl
      have C2 : WF.cell? ⟨w.heap.size, 2, none⟩ = some (.int .i64 s.y) := (HZZ.cell 2).trans rfl
      have C3 : WF.cell? ⟨w.heap.size, 3, none⟩ = some (.slice Ar C.length cr) := (HZZ.cell 3).trans rfl
      refine bodyPost_ret (v := .agg #[.int .i64 (j : Int), .int .i64 s.x, .int .i64 s.y, .slice Ar C.length cr]) (by simp [results, Try.results43, go_sem, C0, C1, C2, C3]) rfl ?_
      rw [HSS.out]
      exact ⟨Ar, cr, by rw [soTo_len], by rw [soTo_len]; exact own_base hOF (by omega), hbF⟩

set_option maxRecDepth 100000 in
set_option maxHeartbeats 3200000 in
theorem sheetOf_any (A : Option Addr) (c : Nat) (hs : List (Hdr Sp)) (B : Option Addr) (d : Nat) (C : List Int) (j : Nat) (w : World) (hg : Grid w A hs) (hc : Mem w B (ints C)) (hok : acOk (lns hs) C = true) (hj : j < row0 (lns hs)) : Calls Try.prog 47 #[.slice A hs.length c, .slice B C.length d, .int .i64 (j : Int)] w (RetSheet w j (soS (lns hs) j) (soTo (lns hs) C j C.length)) := by
  obtain ⟨i0, hi, hz0, hz1, hz2⟩ := info_parts info_row
  have hl := (acOk_iff.1 hok).2.1
  have hcl := (acOk_iff.1 hok).2.2.1
  rw [lns_len] at hl hcl
  have HROW := Lib.hid (show ∀ (k : Nat) (h : Hdr Sp), hs[k]? = some h → j < h.L.length from fun k h hh => by have := ac_row hok (lns_at hh); omega)
  obtain ⟨h0, hh0⟩ := some_of_lt (L := hs) (k := 0) (by omega)
  have hj0 := HROW.out 0 h0 hh0
  obtain ⟨s, hs0⟩ := some_of_lt hj0
  have HSS := Lib.hid (soS_at (lns_at hh0) hs0)
  obtain ⟨b0, p0, rfl, c0⟩ := hdr_cell hg.mem hh0
  obtain ⟨b1, p1, e1, c1, c2⟩ := (hg.row 0 h0 hh0).spot hs0
  rw [e1, Nat.add_zero] at c0
  have lb0 := World.block_lt_of_cell? _ _ c0
  have lb1 := World.block_lt_of_cell? _ _ c1
  clear hok hs0 hh0 e1
  go_enter Try.func47, Try.ntmps47
  go_wp2_with fail
  have BS0 : Blk (((w.alloc (.cells #[.int .i64 0, .int .i64 0, .int .i64 0, .slice none 0 0] 29)).alloc (.cells #[] 83)).alloc (.cells #[.int .i64 (j : Int), .int .i64 s.x, .int .i64 s.y, .slice (some ⟨w.heap.size + 1, 0, none⟩) 0 0] 29)) (w.heap.size + 1 + 1) #[.int .i64 (j : Int), .int .i64 s.x, .int .i64 s.y, .slice (some ⟨w.heap.size + 1, 0, none⟩) 0 0] 29 := by have h := Blk.new ((w.alloc (.cells #[.int .i64 0, .int .i64 0, .int .i64 0, .slice none 0 0] 29)).alloc (.cells #[] 83)) #[.int .i64 (j : Int), .int .i64 s.x, .int .i64 s.y, .slice (some ⟨w.heap.size + 1, 0, none⟩) 0 0] 29; simpa using h
  have BZ0 : Blk (((w.alloc (.cells #[.int .i64 0, .int .i64 0, .int .i64 0, .slice none 0 0] 29)).alloc (.cells #[] 83)).alloc (.cells #[.int .i64 (j : Int), .int .i64 s.x, .int .i64 s.y, .slice (some ⟨w.heap.size + 1, 0, none⟩) 0 0] 29)) w.heap.size #[.int .i64 0, .int .i64 0, .int .i64 0, .slice none 0 0] 29 := ((Blk.new w _ _).alloc _).alloc _
  have HB0 : Below w.heap.size w (((w.alloc (.cells #[.int .i64 0, .int .i64 0, .int .i64 0, .slice none 0 0] 29)).alloc (.cells #[] 83)).alloc (.cells #[.int .i64 (j : Int), .int .i64 s.x, .int .i64 s.y, .slice (some ⟨w.heap.size + 1, 0, none⟩) 0 0] 29)) := by (repeat (first | exact Below.refl _ _ | assumption | (refine Below.alloc ?_ (by first | omega | (simp; done) | (simp; omega)) _) | (refine Below.setCell ?_ (by first | omega | (simp; done) | (simp; omega)) _) | (refine Below.drew ?_) | (refine Below.drewN ?_ _) | (refine Below.next (by assumption) ?_ (by first | omega | (simp; done) | (simp; omega)))))
  have HO0 : (((w.alloc (.cells #[.int .i64 0, .int .i64 0, .int .i64 0, .slice none 0 0] 29)).alloc (.cells #[] 83)).alloc (.cells #[.int .i64 (j : Int), .int .i64 s.x, .int .i64 s.y, .slice (some ⟨w.heap.size + 1, 0, none⟩) 0 0] 29)).ownsRow (w.heap.size + 1) 83 3 (.slice (some ⟨w.heap.size + 1, 0, none⟩) 0 0) 0 (rows (soTo (lns hs) C j 0)) := (own_empty (w := w.alloc (.cells #[.int .i64 0, .int .i64 0, .int .i64 0, .slice none 0 0] 29)) _ _ (by simp) (by omega) rfl).alloc _
  clear c0 c1 c2 lb0 lb1
  go_loopw [8, 9, 21] (fun _ _ i wr => ∃ (k : Nat) (rv : Value), k ≤ C.length ∧ i = .int .i64 k ∧ Blk wr (w.heap.size + 1 + 1) #[.int .i64 (j : Int), .int .i64 s.x, .int .i64 s.y, rv] 29 ∧ Blk wr w.heap.size #[.int .i64 0, .int .i64 0, .int .i64 0, .slice none 0 0] 29 ∧ wr.ownsRow (w.heap.size + 1) 83 3 rv k (rows (soTo (lns hs) C j k)) ∧ Hid (rv.ownBlock ≠ some (w.heap.size + 1 + 1)) ∧ Hid (rv.ownBlock ≠ some w.heap.size) ∧ Below w.heap.size w wr) (fun _ _ i _ => C.length - (intOf i).toNat)
  case atStart => exact ⟨0, _, by omega, rfl, BS0, BZ0, HO0, Lib.hid (by simp [Value.ownBlock]), Lib.hid (by simp [Value.ownBlock]), HB0⟩
  case round =>
    obtain ⟨k, rv, hk, rfl, hB, hZ, hown, HN1, HN2, hb⟩ := hrel
    clear BS0 BZ0 HB0 HO0
    have hBlt := hB.lt
    have hZlt := hZ.lt
    by_cases hlt : k < C.length
    · obtain ⟨n, hn⟩ := some_of_lt hlt
      obtain ⟨h, hh⟩ := some_of_lt (L := hs) (k := k + 1) (by omega)
      have hjl := HROW.out (k + 1) h hh
      obtain ⟨u, hu⟩ := some_of_lt hjl
      have HTS := Lib.hid (soTo_succ (G := lns hs) hn (lns_at hh) hu)
      obtain ⟨bc, pc, rfl, d1⟩ := (hc.below hb).int hn
      obtain ⟨b2, p2, e2, d2⟩ := hdr_cell hg.mem hh
      simp only [Option.some.injEq, Addr.mk.injEq, and_true] at e2
      obtain ⟨rfl, rfl⟩ := e2
      obtain ⟨b3, p3, e3, d3, d4⟩ := (hg.row (k + 1) h hh).spot hu
      rw [e3] at d2
      have lb2 := World.block_lt_of_cell? _ _ d2
      have lb3 := World.block_lt_of_cell? _ _ d3
      have q2 := keep1 hb d2
      have q3 := keep1 hb d3
      have q4 := keep1 hb d4
      have q1 : wr.cell? ⟨(w.heap.size + 1 + 1), 3, none⟩ = some rv := (hB.cell 3).trans rfl
      have z1 : wr.frozen? ⟨(w.heap.size + 1 + 1), 3, none⟩ = false := hB.frozen 3
      have HB := Lib.hid hB
      have HZ := Lib.hid hZ
      have HO := Lib.hid hown
      have HBE := Lib.hid hb
      clear hn hh hu d2 d3 d4 e3 hB hZ hown hb
      go_wp2_with fail
      have HO2 := Lib.hid (own_drew HO.out)
      have HRV := Lib.hid (show ∀ b, b < w.heap.size → rv.ownBlock = some b → False from fun b hb e => by have := (HO.out.lt b e).1; omega)
      have HS1 := Lib.hid (show wr.cell? ⟨(w.heap.size + 1 + 1), 3, none⟩ = some rv ∧ wr.cell? ⟨b0, p0 + (k + 1), none⟩ = some (.slice (some ⟨b3, p3, none⟩) h.L.length h.c) ∧ wr.cell? ⟨b3, p3 + j * 2, none⟩ = some (.int .i64 u.x) ∧ wr.cell? ⟨b3, p3 + j * 2 + 1, none⟩ = some (.int .i64 u.y) from ⟨q1, q2, q3, q4⟩)
      have w1e : IntKind.i64.wrap ((k : Int) + 1) = (k : Int) + 1 := IntWalk.i64_in _ (by omega)
      have i1 : (k : Int) + 1 < (hs.length : Int) := by omega
      have i2 : (0 : Int) ≤ (k : Int) + 1 := by omega
      have i3 : ((k : Int) + 1).toNat = k + 1 := by omega
      go_region_law
        ((refine step_append_keepE wr.drew _ rfl (.tmp 27) (.tmp 38) 27 rfl (w.heap.size + 1) 83 i0 (.agg #[.int .i64 0, .int .i64 0, .int .i64 0]) 3 24 Try.underlying27 hi hz0 hz1 hz2 rfl (by omega) _ _ _ rfl HO2.out #[.int .i64 n, .int .i64 u.x, .int .i64 u.y] 83 1 rfl rfl rfl rfl (by omega) (by omega) (by show (w.heap.size + 1) ≤ wr.heap.size; omega) ?_; intro v' w6 hown' hb6 hkeep hsz6; obtain ⟨A6, q6, rfl⟩ := own_form hown'; obtain ⟨kb1, kb2⟩ := hkeep (w.heap.size + 1 + 1) (by simp; omega) HN1.out; have hB6 : Blk w6 (w.heap.size + 1 + 1) #[.int .i64 (j : Int), .int .i64 s.x, .int .i64 s.y, rv] 29 := kb1.trans HB.out; have z6 : w6.frozen? ⟨(w.heap.size + 1 + 1), 3, none⟩ = false := Blk.frozen hB6 3; have c6 : w6.cell? ⟨(w.heap.size + 1 + 1), 3, none⟩ = some rv := (Blk.cell hB6 3).trans rfl; have hbl6 : (w.heap.size + 1 + 1) < w6.heap.size := Blk.lt hB6))
      all_goals
        go_wp2_with fail
        go_roundw
        case rel =>
          obtain ⟨kz1, kz2⟩ := hkeep w.heap.size (by simp; omega) HN2.out
          refine ⟨k + 1, .slice A6 (k + 1) q6, by omega, by go_num, hB6.set 3 _, (show Blk w6 w.heap.size _ _ from kz1.trans HZ.out).other (by omega) _, own_othS (by rw [HTS.out, rows_snoc]; exact hown') kb2, Lib.hid kb2, Lib.hid kz2, ((HBE.out.drew).trans (hb6.mono (by omega))).setCell (by (try dsimp only); omega) _⟩
        case measure => simp [intOf]; omega
    · obtain rfl : k = C.length := by omega
      obtain ⟨Ar, cr, rfl⟩ := own_form hown
      have bo0 : wr.cell? ⟨(w.heap.size + 1 + 1), 0, none⟩ = some (.int .i64 (j : Int)) := (hB.cell 0).trans rfl
      have bo1 : wr.cell? ⟨(w.heap.size + 1 + 1), 1, none⟩ = some (.int .i64 s.x) := (hB.cell 1).trans rfl
      have bo2 : wr.cell? ⟨(w.heap.size + 1 + 1), 2, none⟩ = some (.int .i64 s.y) := (hB.cell 2).trans rfl
      have bo3 : wr.cell? ⟨(w.heap.size + 1 + 1), 3, none⟩ = some (.slice Ar C.length cr) := (hB.cell 3).trans rfl
      have z0 : wr.cell? ⟨w.heap.size, 0, none⟩ = some (.int .i64 0) := (hZ.cell 0).trans rfl
      have z1 : wr.cell? ⟨w.heap.size, 1, none⟩ = some (.int .i64 0) := (hZ.cell 1).trans rfl
      have z2 : wr.cell? ⟨w.heap.size, 2, none⟩ = some (.int .i64 0) := (hZ.cell 2).trans rfl
      have z3 : wr.cell? ⟨w.heap.size, 3, none⟩ = some (.slice none 0 0) := (hZ.cell 3).trans rfl
      have y0 := hZ.frozen 0
      have y1 := hZ.frozen 1
      have y2 := hZ.frozen 2
      have y3 := hZ.frozen 3
      have HO := Lib.hid hown
      have HZ := Lib.hid hZ
      have HBE := Lib.hid hb
      clear hB hown hZ hb
      go_wp2_with fail
      have hOF : ((((wr.setCell ⟨w.heap.size, 0, none⟩ (.int .i64 (j : Int))).setCell ⟨w.heap.size, 1, none⟩ (.int .i64 s.x)).setCell ⟨w.heap.size, 2, none⟩ (.int .i64 s.y)).setCell ⟨w.heap.size, 3, none⟩ (.slice Ar C.length cr)).ownsRow (w.heap.size + 1) 83 3 (.slice Ar C.length cr) C.length (rows (soTo (lns hs) C j C.length)) := own_othS (own_othS (own_othS (own_othS HO.out HN2.out) HN2.out) HN2.out) HN2.out
      have HZZ : Blk ((((wr.setCell ⟨w.heap.size, 0, none⟩ (.int .i64 (j : Int))).setCell ⟨w.heap.size, 1, none⟩ (.int .i64 s.x)).setCell ⟨w.heap.size, 2, none⟩ (.int .i64 s.y)).setCell ⟨w.heap.size, 3, none⟩ (.slice Ar C.length cr)) w.heap.size #[.int .i64 (j : Int), .int .i64 s.x, .int .i64 s.y, .slice Ar C.length cr] 29 := (((HZ.out.set 0 _).set 1 _).set 2 _).set 3 _
      have hbF : Below w.heap.size w ((((wr.setCell ⟨w.heap.size, 0, none⟩ (.int .i64 (j : Int))).setCell ⟨w.heap.size, 1, none⟩ (.int .i64 s.x)).setCell ⟨w.heap.size, 2, none⟩ (.int .i64 s.y)).setCell ⟨w.heap.size, 3, none⟩ (.slice Ar C.length cr)) := (((HBE.out.setCell (by (try dsimp only); omega) _).setCell (by (try dsimp only); omega) _).setCell (by (try dsimp only); omega) _).setCell (by (try dsimp only); omega) _
      clear bo0 bo1 bo2 bo3 z0 z1 z2 z3 y0 y1 y2 y3
      generalize ((((wr.setCell ⟨w.heap.size, 0, none⟩ (.int .i64 (j : Int))).setCell ⟨w.heap.size, 1, none⟩ (.int .i64 s.x)).setCell ⟨w.heap.size, 2, none⟩ (.int .i64 s.y)).setCell ⟨w.heap.size, 3, none⟩ (.slice Ar C.length cr)) = WF at *
      have C0 : WF.cell? ⟨w.heap.size, 0, none⟩ = some (.int .i64 (j : Int)) := (HZZ.cell 0).trans rfl
      have C1 : WF.cell? ⟨w.heap.size, 1, none⟩ = some (.int .i64 s.x) := (HZZ.cell 1).trans rfl
      have C2 : WF.cell? ⟨w.heap.size, 2, none⟩ = some (.int .i64 s.y) := (HZZ.cell 2).trans rfl
      have C3 : WF.cell? ⟨w.heap.size, 3, none⟩ = some (.slice Ar C.length cr) := (HZZ.cell 3).trans rfl
      refine bodyPost_ret (v := .agg #[.int .i64 (j : Int), .int .i64 s.x, .int .i64 s.y, .slice Ar C.length cr]) (by simp [results, Try.results47, go_sem, C0, C1, C2, C3]) rfl ?_
      rw [HSS.out]
      exact ⟨Ar, cr, by rw [soTo_len], by rw [soTo_len]; exact own_base hOF (by omega), hbF⟩

set_option maxRecDepth 100000 in
set_option maxHeartbeats 3200000 in
theorem areCharts_any (A : Option Addr) (c : Nat) (hs : List (Hdr Sp)) (B : Option Addr) (d : Nat) (C : List Int) (w : World) (hg : Grid w A hs) (hc : Mem w B (ints C)) (hl : hs.length ≤ 1048576) (hcl : C.length ≤ 1048576) (hr : ∀ (k : Nat) (h : Hdr Sp), hs[k]? = some h → h.L.length ≤ 1048576 ∧ h.L.length ≤ h.c) : Calls Try.prog 45 #[.slice A hs.length c, .slice B C.length d] w fun e w' => e = .returned (.bool (acOk (lns hs) C)) ∧ Below w.heap.size w w' := by
  have HR := Lib.hid hr
  have HE : Hid (acOk (lns hs) C = (((lns hs).all (rwOk (row0 (lns hs))) && inR hs.length 1 9) && (decide (C.length + 1 = hs.length) && C.all fun n => inR n 1 64))) := Lib.hid (by rw [acOk, lns_len])
  clear hr
  cases hn : inR hs.length 1 9
  · have HN := Lib.hid hn
    have HV := Lib.hid (show acOk (lns hs) C = false by rw [HE.out, hn]; simp)
    clear hn
    go_enter Try.func45, Try.ntmps45
    go_wp2_with (first | (go_at_call 46; refine (within_any _ _ _ _).mono ?_; rintro e w' ⟨he, rfl⟩; rw [HN.out] at he; subst he))
    go_ret
    exact ⟨ret_bool HV.out.symm, Below.refl _ _⟩
  have HN := Lib.hid hn
  have hn2 := inR_iff.1 hn
  clear hn
  by_cases hcn : C.length + 1 = hs.length
  case neg =>
    have HV := Lib.hid (show acOk (lns hs) C = false by rw [HE.out]; simp [hcn])
    have e1 : ((C.length : Int) != (hs.length : Int) - 1) = true := by simp; omega
    clear hcn
    go_enter Try.func45, Try.ntmps45
    go_wp2_with (first | (go_at_call 46; refine (within_any _ _ _ _).mono ?_; rintro e w' ⟨he, rfl⟩; rw [HN.out] at he; subst he))
    go_ret
    exact ⟨ret_bool HV.out.symm, Below.refl _ _⟩
  have HE2 := Lib.hid (show acOk (lns hs) C = ((lns hs).all (rwOk (row0 (lns hs))) && C.all fun n => inR n 1 64) by rw [HE.out, HN.out]; simp [hcn])
  have e1 : ((C.length : Int) != (hs.length : Int) - 1) = false := by simp; omega
  clear hcn
  go_enter Try.func45, Try.ntmps45
  go_wp2_with (first | (go_at_call 46; refine (within_any _ _ _ _).mono ?_; rintro e w' ⟨he, rfl⟩; rw [HN.out] at he; subst he))
  go_loopw [6, 23] (fun _ i wr => ∃ k : Nat, k ≤ hs.length ∧ i = .int .i64 k ∧ Below w.heap.size w wr ∧ Hid (((lns hs).take k).all (rwOk (row0 (lns hs))) = true)) (fun _ i _ => hs.length - (intOf i).toNat)
  case atStart => exact ⟨0, by omega, rfl, Below.refl _ _, all_take_zero _ _⟩
  case round =>
    clear e1
    obtain ⟨k, hk, rfl, hb, H⟩ := hrel
    by_cases hlt : k < hs.length
    · obtain ⟨h, hh⟩ := some_of_lt hlt
      obtain ⟨h0, hh0⟩ := some_of_lt (L := hs) (k := 0) (by omega)
      obtain ⟨b, off, rfl, c1⟩ := hdr_cell (hg.below hb).mem hh
      obtain ⟨b', off', e', c0⟩ := hdr_cell hg.mem hh0
      obtain ⟨rfl, rfl⟩ : b = b' ∧ off = off' := by simpa using e'
      rw [Nat.add_zero] at c0
      have C0 := Lib.hid c0
      have HM := Lib.hid ((hg.below hb).row k h hh)
      obtain ⟨r1, r2⟩ := HR.out k h hh
      have HH := Lib.hid (show Hid ((lns hs)[k]? = some h.L) from lns_at hh)
      have H0 := Lib.hid (show row0 (lns hs) = h0.L.length from row0_at (lns_at hh0))
      clear hh hh0 e' c0
      cases hch : chOk h.L
      · have HI := Lib.hid (show rwOk (row0 (lns hs)) h.L = false by simp [rwOk, hch])
        have HC := Lib.hid hch
        clear hch
        go_wp2_with fail
        refine (IsChart_any _ _ h.L _ HM.out r1 r2).mono ?_
        rintro e w2 ⟨he, hq⟩
        rw [HC.out] at he
        subst he
        go_wp2_with fail
        go_ret
        exact ⟨ret_bool (by rw [HE2.out, all_no HH.out HI.out]; rfl), Below.next hq hb hb.size⟩
      · have HC := Lib.hid hch
        by_cases hle : h.L.length = h0.L.length
        · have HI := Lib.hid (show rwOk (row0 (lns hs)) h.L = true by simp [rwOk, HC.out, H0.out, hle])
          have e2 : ((h.L.length : Int) != h0.L.length) = false := by rw [hle]; simp
          clear hch hle
          go_wp2_with fail
          refine (IsChart_any _ _ h.L _ HM.out r1 r2).mono ?_
          rintro e w2 ⟨he, hq⟩
          rw [HC.out] at he
          subst he
          have c0 := keep1 hq (keep1 hb C0.out)
          go_wp2_with fail
          go_roundw
          case rel => exact ⟨k + 1, by omega, by go_num, Below.next hq hb hb.size, all_take_succ H HH.out HI.out⟩
          case measure => simp [intOf]; omega
        · have HI := Lib.hid (show rwOk (row0 (lns hs)) h.L = false by simp [rwOk, HC.out, H0.out, hle])
          have e2 : ((h.L.length : Int) != h0.L.length) = true := by simpa using (show ¬ (h.L.length : Int) = h0.L.length by omega)
          clear hch
          go_wp2_with fail
          refine (IsChart_any _ _ h.L _ HM.out r1 r2).mono ?_
          rintro e w2 ⟨he, hq⟩
          rw [HC.out] at he
          subst he
          have c0 := keep1 hq (keep1 hb C0.out)
          go_wp2_with fail
          go_ret
          exact ⟨ret_bool (by rw [HE2.out, all_no HH.out HI.out]; rfl), Below.next hq hb hb.size⟩
    · have HE3 := Lib.hid (show acOk (lns hs) C = (C.all fun n => inR n 1 64) by
        rw [HE2.out, all_yes H (by rw [lns_len]; omega), Bool.true_and])
      have MC := Lib.hid (hc.below hb)
      have HB := Lib.hid hb
      clear hb
      go_wp2_with fail
      go_loop [8, 42] (fun _ i => ∃ k : Nat, k ≤ C.length ∧ i = .int .i64 k ∧ Hid ((C.take k).all (fun n => inR n 1 64) = true)) (fun _ i => C.length - (intOf i).toNat)
      case atStart => exact ⟨0, by omega, rfl, all_take_zero _ _⟩
      case round =>
        obtain ⟨k, hk, rfl, H2⟩ := hrel
        by_cases hlt2 : k < C.length
        · obtain ⟨n, hn⟩ := some_of_lt hlt2
          obtain ⟨bc, pc, rfl, d1⟩ := MC.out.int hn
          have HC := Lib.hid (show Hid (C[k]? = some n) from hn)
          clear hn
          cases hi : inR n 1 64
          · have HN := Lib.hid hi
            clear hi
            go_wp2_with (first | (go_at_call 46; refine (within_any _ _ _ _).mono ?_; rintro e w' ⟨he, rfl⟩; rw [HN.out] at he; subst he))
            go_ret
            exact ⟨ret_bool (by rw [HE3.out, all_no HC.out HN.out]), HB.out⟩
          · have HN := Lib.hid hi
            clear hi
            go_wp2_with (first | (go_at_call 46; refine (within_any _ _ _ _).mono ?_; rintro e w' ⟨he, rfl⟩; rw [HN.out] at he; subst he))
            go_round
            case rel => exact ⟨k + 1, by omega, by go_num, all_take_succ H2 HC.out HN.out⟩
            case measure => simp [intOf]; omega
        · go_wp2
          go_ret
          exact ⟨ret_bool (by rw [HE3.out, all_yes H2 (by omega)]), HB.out⟩

set_option maxRecDepth 100000 in
set_option maxHeartbeats 3200000 in
theorem spec_SheetOf_any (A : Option Addr) (c : Nat) (hs : List (Hdr Sp)) (B : Option Addr) (d : Nat) (C : List Int) (p : Int) (w : World) (hg : Grid w A hs) (hc : Mem w B (ints C)) (hl : hs.length ≤ 1048576) (hcl : C.length ≤ 1048576) (hr : ∀ (k : Nat) (h : Hdr Sp), hs[k]? = some h → h.L.length ≤ 1048576 ∧ h.L.length ≤ h.c) : Calls Try.prog 7 #[.slice A hs.length c, .slice B C.length d, .int .i64 p] w (RetShB w (sfP (lns hs) C p) (sfS (lns hs) C p) (sfV (lns hs) C p) (sfOk (lns hs) C p)) := by
  have e0 : Hid (sfOk (lns hs) C p = false → sfP (lns hs) C p = 0 ∧ sfS (lns hs) C p = ⟨0, 0⟩ ∧ sfV (lns hs) C p = []) := Lib.hid (fun h => by simp [sfP, sfS, sfV, h])
  have e1 : Hid (sfOk (lns hs) C p = true → sfP (lns hs) C p = p ∧ sfS (lns hs) C p = soS (lns hs) p.toNat ∧ sfV (lns hs) C p = soTo (lns hs) C p.toNat C.length) := Lib.hid (fun h => by simp [sfP, sfS, sfV, h])
  have HG := Lib.hid hg
  have HC := Lib.hid hc
  have BZ0 : Blk (w.alloc (.cells #[.int .i64 0, .int .i64 0, .int .i64 0, .slice none 0 0] 29)) w.heap.size #[.int .i64 0, .int .i64 0, .int .i64 0, .slice none 0 0] 29 := Blk.new w _ _
  have hba : Below w.heap.size w (w.alloc (.cells #[.int .i64 0, .int .i64 0, .int .i64 0, .slice none 0 0] 29)) := (Below.refl _ _).alloc (Nat.le_refl _) _
  clear hg hc
  cases hok : acOk (lns hs) C
  all_goals
    have HOK := Lib.hid hok
    clear hok
    go_enter Try.func7, Try.ntmps7
    go_wp2_with fail
    refine (shCharts_any _ _ hs _ _ C _ (HG.out.below hba) (HC.out.below hba) hl hcl hr).mono ?_
    rintro e w1 ⟨he, hq⟩
    rw [HOK.out] at he
    subst he
    have BZw1 := Lib.hid (BZ0.below hq (by simp))
    have HBw1 := Lib.hid (Below.next hq hba hba.size)
    have zw1_0 : w1.cell? ⟨w.heap.size, 0, none⟩ = some (.int .i64 0) := (BZw1.out.cell 0).trans rfl
    have yw1_0 : w1.frozen? ⟨w.heap.size, 0, none⟩ = false := BZw1.out.frozen 0
    have zw1_1 : w1.cell? ⟨w.heap.size, 1, none⟩ = some (.int .i64 0) := (BZw1.out.cell 1).trans rfl
    have yw1_1 : w1.frozen? ⟨w.heap.size, 1, none⟩ = false := BZw1.out.frozen 1
    have zw1_2 : w1.cell? ⟨w.heap.size, 2, none⟩ = some (.int .i64 0) := (BZw1.out.cell 2).trans rfl
    have yw1_2 : w1.frozen? ⟨w.heap.size, 2, none⟩ = false := BZw1.out.frozen 2
    have zw1_3 : w1.cell? ⟨w.heap.size, 3, none⟩ = some (.slice none 0 0) := (BZw1.out.cell 3).trans rfl
    have yw1_3 : w1.frozen? ⟨w.heap.size, 3, none⟩ = false := BZw1.out.frozen 3
    have lw1 := BZw1.out.lt
    clear BZ0 hba hq
  · have HV := Lib.hid (show sfOk (lns hs) C p = false by rw [sfOk, HOK.out]; rfl)
    go_wp2_with fail
    have hbF : Below w.heap.size w ((((w1.setCell ⟨w.heap.size, 0, none⟩ (.int .i64 0)).setCell ⟨w.heap.size, 1, none⟩ (.int .i64 0)).setCell ⟨w.heap.size, 2, none⟩ (.int .i64 0)).setCell ⟨w.heap.size, 3, none⟩ (.slice none 0 0)) := ((((HBw1.out.setCell (by (try dsimp only); omega) _).setCell (by (try dsimp only); omega) _).setCell (by (try dsimp only); omega) _).setCell (by (try dsimp only); omega) _)
    have HZZ : Blk ((((w1.setCell ⟨w.heap.size, 0, none⟩ (.int .i64 0)).setCell ⟨w.heap.size, 1, none⟩ (.int .i64 0)).setCell ⟨w.heap.size, 2, none⟩ (.int .i64 0)).setCell ⟨w.heap.size, 3, none⟩ (.slice none 0 0)) w.heap.size #[.int .i64 0, .int .i64 0, .int .i64 0, .slice none 0 0] 29 := ((((BZw1.out.set 0 _).set 1 _).set 2 _).set 3 _)
    generalize ((((w1.setCell ⟨w.heap.size, 0, none⟩ (.int .i64 0)).setCell ⟨w.heap.size, 1, none⟩ (.int .i64 0)).setCell ⟨w.heap.size, 2, none⟩ (.int .i64 0)).setCell ⟨w.heap.size, 3, none⟩ (.slice none 0 0)) = WF at *
    have C0 : WF.cell? ⟨w.heap.size, 0, none⟩ = some (.int .i64 0) := (HZZ.cell 0).trans rfl
    have C1 : WF.cell? ⟨w.heap.size, 1, none⟩ = some (.int .i64 0) := (HZZ.cell 1).trans rfl
    have C2 : WF.cell? ⟨w.heap.size, 2, none⟩ = some (.int .i64 0) := (HZZ.cell 2).trans rfl
    have C3 : WF.cell? ⟨w.heap.size, 3, none⟩ = some (.slice none 0 0) := (HZZ.cell 3).trans rfl
    refine bodyPost_ret (v := .tuple #[.agg #[.int .i64 0, .int .i64 0, .int .i64 0, .slice none 0 0], .bool false]) (by simp [results, Try.results7, go_sem, C0, C1, C2, C3]) rfl ?_
    obtain ⟨g1, g2, g3⟩ := e0.out HV.out
    rw [g1, g2, g3, HV.out]
    exact ⟨none, 0, rfl, World.ownsRow_nil _ _ _ _, hbF⟩

  have hac := acOk_iff.1 HOK.out
  have hl2 := hac.2.1
  have hcl2 := hac.2.2.1
  rw [lns_len] at hl2 hcl2
  obtain ⟨h0, hh0⟩ := some_of_lt (L := hs) (k := 0) (by omega)
  have hrow := ac_row HOK.out (lns_at hh0)
  have HR0 := Lib.hid (show row0 (lns hs) = h0.L.length from row0_at (lns_at hh0))
  have hb12 : 1 ≤ h0.L.length ∧ h0.L.length ≤ 12 := by omega
  obtain ⟨b0, p0, rfl, c0⟩ := hdr_cell (HG.out.below HBw1.out).mem hh0
  rw [Nat.add_zero] at c0
  clear hac hh0 hrow
  cases hp : inR p 0 ((h0.L.length : Int) - 1)
  · have HP := Lib.hid hp
    have HV := Lib.hid (show sfOk (lns hs) C p = false by rw [sfOk, HOK.out, HR0.out, hp]; rfl)
    clear hp
    go_wp2_with (go_at_call 42; refine (l1In_any _ _ _ _).mono ?_; rintro e w' ⟨he, rfl⟩; rw [HP.out] at he; subst he)
    have hbF : Below w.heap.size w ((((w1.setCell ⟨w.heap.size, 0, none⟩ (.int .i64 0)).setCell ⟨w.heap.size, 1, none⟩ (.int .i64 0)).setCell ⟨w.heap.size, 2, none⟩ (.int .i64 0)).setCell ⟨w.heap.size, 3, none⟩ (.slice none 0 0)) := ((((HBw1.out.setCell (by (try dsimp only); omega) _).setCell (by (try dsimp only); omega) _).setCell (by (try dsimp only); omega) _).setCell (by (try dsimp only); omega) _)
    have HZZ : Blk ((((w1.setCell ⟨w.heap.size, 0, none⟩ (.int .i64 0)).setCell ⟨w.heap.size, 1, none⟩ (.int .i64 0)).setCell ⟨w.heap.size, 2, none⟩ (.int .i64 0)).setCell ⟨w.heap.size, 3, none⟩ (.slice none 0 0)) w.heap.size #[.int .i64 0, .int .i64 0, .int .i64 0, .slice none 0 0] 29 := ((((BZw1.out.set 0 _).set 1 _).set 2 _).set 3 _)
    generalize ((((w1.setCell ⟨w.heap.size, 0, none⟩ (.int .i64 0)).setCell ⟨w.heap.size, 1, none⟩ (.int .i64 0)).setCell ⟨w.heap.size, 2, none⟩ (.int .i64 0)).setCell ⟨w.heap.size, 3, none⟩ (.slice none 0 0)) = WF at *
    have C0 : WF.cell? ⟨w.heap.size, 0, none⟩ = some (.int .i64 0) := (HZZ.cell 0).trans rfl
    have C1 : WF.cell? ⟨w.heap.size, 1, none⟩ = some (.int .i64 0) := (HZZ.cell 1).trans rfl
    have C2 : WF.cell? ⟨w.heap.size, 2, none⟩ = some (.int .i64 0) := (HZZ.cell 2).trans rfl
    have C3 : WF.cell? ⟨w.heap.size, 3, none⟩ = some (.slice none 0 0) := (HZZ.cell 3).trans rfl
    refine bodyPost_ret (v := .tuple #[.agg #[.int .i64 0, .int .i64 0, .int .i64 0, .slice none 0 0], .bool false]) (by simp [results, Try.results7, go_sem, C0, C1, C2, C3]) rfl ?_
    obtain ⟨g1, g2, g3⟩ := e0.out HV.out
    rw [g1, g2, g3, HV.out]
    exact ⟨none, 0, rfl, World.ownsRow_nil _ _ _ _, hbF⟩

  have HP := Lib.hid hp
  have HV := Lib.hid (show sfOk (lns hs) C p = true by rw [sfOk, HOK.out, HR0.out, hp]; rfl)
  have hp2 := inR_iff.1 hp
  obtain ⟨j, rfl⟩ : ∃ j : Nat, p = (j : Int) := ⟨p.toNat, by omega⟩
  have hj : j < row0 (lns hs) := by rw [HR0.out]; omega
  clear hp
  go_wp2_with (go_at_call 42; refine (l1In_any _ _ _ _).mono ?_; rintro e w' ⟨he, rfl⟩; rw [HP.out] at he; subst he)
  refine (shOf_any _ _ hs _ _ C j _ (HG.out.below HBw1.out) (HC.out.below HBw1.out) HOK.out hj).mono ?_
  rintro e w2 ⟨A2, c2, rfl, ho, hq2⟩
  have BZw2 := Lib.hid (BZw1.out.below hq2 lw1)
  have HBw2 := Lib.hid (Below.next hq2 HBw1.out HBw1.out.size)
  have zw2_0 : w2.cell? ⟨w.heap.size, 0, none⟩ = some (.int .i64 0) := (BZw2.out.cell 0).trans rfl
  have yw2_0 : w2.frozen? ⟨w.heap.size, 0, none⟩ = false := BZw2.out.frozen 0
  have zw2_1 : w2.cell? ⟨w.heap.size, 1, none⟩ = some (.int .i64 0) := (BZw2.out.cell 1).trans rfl
  have yw2_1 : w2.frozen? ⟨w.heap.size, 1, none⟩ = false := BZw2.out.frozen 1
  have zw2_2 : w2.cell? ⟨w.heap.size, 2, none⟩ = some (.int .i64 0) := (BZw2.out.cell 2).trans rfl
  have yw2_2 : w2.frozen? ⟨w.heap.size, 2, none⟩ = false := BZw2.out.frozen 2
  have zw2_3 : w2.cell? ⟨w.heap.size, 3, none⟩ = some (.slice none 0 0) := (BZw2.out.cell 3).trans rfl
  have yw2_3 : w2.frozen? ⟨w.heap.size, 3, none⟩ = false := BZw2.out.frozen 3
  have lw2 := BZw2.out.lt
  have HNE : (Value.slice A2 (soTo (lns hs) C j C.length).length c2).ownBlock ≠ some w.heap.size := fun e => by have := (ho.lt _ e).1; omega
  have hz1 := HBw1.out.size
  clear zw1_0 zw1_1 zw1_2 zw1_3 yw1_0 yw1_1 yw1_2 yw1_3 c0
  go_wp2_with fail
  have hbF : Below w.heap.size w ((((w2.setCell ⟨w.heap.size, 0, none⟩ (.int .i64 (j : Int))).setCell ⟨w.heap.size, 1, none⟩ (.int .i64 (soS (lns hs) j).x)).setCell ⟨w.heap.size, 2, none⟩ (.int .i64 (soS (lns hs) j).y)).setCell ⟨w.heap.size, 3, none⟩ (.slice A2 (soTo (lns hs) C j C.length).length c2)) := ((((HBw2.out.setCell (by (try dsimp only); omega) _).setCell (by (try dsimp only); omega) _).setCell (by (try dsimp only); omega) _).setCell (by (try dsimp only); omega) _)
  have HZZ : Blk ((((w2.setCell ⟨w.heap.size, 0, none⟩ (.int .i64 (j : Int))).setCell ⟨w.heap.size, 1, none⟩ (.int .i64 (soS (lns hs) j).x)).setCell ⟨w.heap.size, 2, none⟩ (.int .i64 (soS (lns hs) j).y)).setCell ⟨w.heap.size, 3, none⟩ (.slice A2 (soTo (lns hs) C j C.length).length c2)) w.heap.size #[.int .i64 (j : Int), .int .i64 (soS (lns hs) j).x, .int .i64 (soS (lns hs) j).y, .slice A2 (soTo (lns hs) C j C.length).length c2] 29 := ((((BZw2.out.set 0 _).set 1 _).set 2 _).set 3 _)
  have hOF : ((((w2.setCell ⟨w.heap.size, 0, none⟩ (.int .i64 (j : Int))).setCell ⟨w.heap.size, 1, none⟩ (.int .i64 (soS (lns hs) j).x)).setCell ⟨w.heap.size, 2, none⟩ (.int .i64 (soS (lns hs) j).y)).setCell ⟨w.heap.size, 3, none⟩ (.slice A2 (soTo (lns hs) C j C.length).length c2)).ownsRow w1.heap.size 83 3 (.slice A2 (soTo (lns hs) C j C.length).length c2) (soTo (lns hs) C j C.length).length (rows (soTo (lns hs) C j C.length)) := own_othS (own_othS (own_othS (own_othS ho HNE) HNE) HNE) HNE
  generalize ((((w2.setCell ⟨w.heap.size, 0, none⟩ (.int .i64 (j : Int))).setCell ⟨w.heap.size, 1, none⟩ (.int .i64 (soS (lns hs) j).x)).setCell ⟨w.heap.size, 2, none⟩ (.int .i64 (soS (lns hs) j).y)).setCell ⟨w.heap.size, 3, none⟩ (.slice A2 (soTo (lns hs) C j C.length).length c2)) = WF at *
  have C0 : WF.cell? ⟨w.heap.size, 0, none⟩ = some (.int .i64 (j : Int)) := (HZZ.cell 0).trans rfl
  have C1 : WF.cell? ⟨w.heap.size, 1, none⟩ = some (.int .i64 (soS (lns hs) j).x) := (HZZ.cell 1).trans rfl
  have C2 : WF.cell? ⟨w.heap.size, 2, none⟩ = some (.int .i64 (soS (lns hs) j).y) := (HZZ.cell 2).trans rfl
  have C3 : WF.cell? ⟨w.heap.size, 3, none⟩ = some (.slice A2 (soTo (lns hs) C j C.length).length c2) := (HZZ.cell 3).trans rfl
  refine bodyPost_ret (v := .tuple #[.agg #[.int .i64 (j : Int), .int .i64 (soS (lns hs) j).x, .int .i64 (soS (lns hs) j).y, .slice A2 (soTo (lns hs) C j C.length).length c2], .bool true]) (by simp [results, Try.results7, go_sem, C0, C1, C2, C3]) rfl ?_
  obtain ⟨g1, g2, g3⟩ := e1.out HV.out
  rw [g1, g2, g3, HV.out]
  exact ⟨A2, c2, rfl, own_base hOF hz1, hbF⟩

set_option maxRecDepth 100000 in
set_option maxHeartbeats 3200000 in
theorem impl_SheetOf_any (A : Option Addr) (c : Nat) (hs : List (Hdr Sp)) (B : Option Addr) (d : Nat) (C : List Int) (p : Int) (w : World) (hg : Grid w A hs) (hc : Mem w B (ints C)) (hl : hs.length ≤ 1048576) (hcl : C.length ≤ 1048576) (hr : ∀ (k : Nat) (h : Hdr Sp), hs[k]? = some h → h.L.length ≤ 1048576 ∧ h.L.length ≤ h.c) : Calls Try.prog 10 #[.slice A hs.length c, .slice B C.length d, .int .i64 p] w (RetShB w (sfP (lns hs) C p) (sfS (lns hs) C p) (sfV (lns hs) C p) (sfOk (lns hs) C p)) := by
  have e0 : Hid (sfOk (lns hs) C p = false → sfP (lns hs) C p = 0 ∧ sfS (lns hs) C p = ⟨0, 0⟩ ∧ sfV (lns hs) C p = []) := Lib.hid (fun h => by simp [sfP, sfS, sfV, h])
  have e1 : Hid (sfOk (lns hs) C p = true → sfP (lns hs) C p = p ∧ sfS (lns hs) C p = soS (lns hs) p.toNat ∧ sfV (lns hs) C p = soTo (lns hs) C p.toNat C.length) := Lib.hid (fun h => by simp [sfP, sfS, sfV, h])
  have HG := Lib.hid hg
  have HC := Lib.hid hc
  have BZ0 : Blk (w.alloc (.cells #[.int .i64 0, .int .i64 0, .int .i64 0, .slice none 0 0] 29)) w.heap.size #[.int .i64 0, .int .i64 0, .int .i64 0, .slice none 0 0] 29 := Blk.new w _ _
  have hba : Below w.heap.size w (w.alloc (.cells #[.int .i64 0, .int .i64 0, .int .i64 0, .slice none 0 0] 29)) := (Below.refl _ _).alloc (Nat.le_refl _) _
  clear hg hc
  cases hok : acOk (lns hs) C
  all_goals
    have HOK := Lib.hid hok
    clear hok
    go_enter Try.func10, Try.ntmps10
    go_wp2_with fail
    refine (areCharts_any _ _ hs _ _ C _ (HG.out.below hba) (HC.out.below hba) hl hcl hr).mono ?_
    rintro e w1 ⟨he, hq⟩
    rw [HOK.out] at he
    subst he
    have BZw1 := Lib.hid (BZ0.below hq (by simp))
    have HBw1 := Lib.hid (Below.next hq hba hba.size)
    have zw1_0 : w1.cell? ⟨w.heap.size, 0, none⟩ = some (.int .i64 0) := (BZw1.out.cell 0).trans rfl
    have yw1_0 : w1.frozen? ⟨w.heap.size, 0, none⟩ = false := BZw1.out.frozen 0
    have zw1_1 : w1.cell? ⟨w.heap.size, 1, none⟩ = some (.int .i64 0) := (BZw1.out.cell 1).trans rfl
    have yw1_1 : w1.frozen? ⟨w.heap.size, 1, none⟩ = false := BZw1.out.frozen 1
    have zw1_2 : w1.cell? ⟨w.heap.size, 2, none⟩ = some (.int .i64 0) := (BZw1.out.cell 2).trans rfl
    have yw1_2 : w1.frozen? ⟨w.heap.size, 2, none⟩ = false := BZw1.out.frozen 2
    have zw1_3 : w1.cell? ⟨w.heap.size, 3, none⟩ = some (.slice none 0 0) := (BZw1.out.cell 3).trans rfl
    have yw1_3 : w1.frozen? ⟨w.heap.size, 3, none⟩ = false := BZw1.out.frozen 3
    have lw1 := BZw1.out.lt
    clear BZ0 hba hq
  · have HV := Lib.hid (show sfOk (lns hs) C p = false by rw [sfOk, HOK.out]; rfl)
    go_wp2_with fail
    have hbF : Below w.heap.size w ((((w1.setCell ⟨w.heap.size, 0, none⟩ (.int .i64 0)).setCell ⟨w.heap.size, 1, none⟩ (.int .i64 0)).setCell ⟨w.heap.size, 2, none⟩ (.int .i64 0)).setCell ⟨w.heap.size, 3, none⟩ (.slice none 0 0)) := ((((HBw1.out.setCell (by (try dsimp only); omega) _).setCell (by (try dsimp only); omega) _).setCell (by (try dsimp only); omega) _).setCell (by (try dsimp only); omega) _)
    have HZZ : Blk ((((w1.setCell ⟨w.heap.size, 0, none⟩ (.int .i64 0)).setCell ⟨w.heap.size, 1, none⟩ (.int .i64 0)).setCell ⟨w.heap.size, 2, none⟩ (.int .i64 0)).setCell ⟨w.heap.size, 3, none⟩ (.slice none 0 0)) w.heap.size #[.int .i64 0, .int .i64 0, .int .i64 0, .slice none 0 0] 29 := ((((BZw1.out.set 0 _).set 1 _).set 2 _).set 3 _)
    generalize ((((w1.setCell ⟨w.heap.size, 0, none⟩ (.int .i64 0)).setCell ⟨w.heap.size, 1, none⟩ (.int .i64 0)).setCell ⟨w.heap.size, 2, none⟩ (.int .i64 0)).setCell ⟨w.heap.size, 3, none⟩ (.slice none 0 0)) = WF at *
    have C0 : WF.cell? ⟨w.heap.size, 0, none⟩ = some (.int .i64 0) := (HZZ.cell 0).trans rfl
    have C1 : WF.cell? ⟨w.heap.size, 1, none⟩ = some (.int .i64 0) := (HZZ.cell 1).trans rfl
    have C2 : WF.cell? ⟨w.heap.size, 2, none⟩ = some (.int .i64 0) := (HZZ.cell 2).trans rfl
    have C3 : WF.cell? ⟨w.heap.size, 3, none⟩ = some (.slice none 0 0) := (HZZ.cell 3).trans rfl
    refine bodyPost_ret (v := .tuple #[.agg #[.int .i64 0, .int .i64 0, .int .i64 0, .slice none 0 0], .bool false]) (by simp [results, Try.results10, go_sem, C0, C1, C2, C3]) rfl ?_
    obtain ⟨g1, g2, g3⟩ := e0.out HV.out
    rw [g1, g2, g3, HV.out]
    exact ⟨none, 0, rfl, World.ownsRow_nil _ _ _ _, hbF⟩

  have hac := acOk_iff.1 HOK.out
  have hl2 := hac.2.1
  have hcl2 := hac.2.2.1
  rw [lns_len] at hl2 hcl2
  obtain ⟨h0, hh0⟩ := some_of_lt (L := hs) (k := 0) (by omega)
  have hrow := ac_row HOK.out (lns_at hh0)
  have HR0 := Lib.hid (show row0 (lns hs) = h0.L.length from row0_at (lns_at hh0))
  have hb12 : 1 ≤ h0.L.length ∧ h0.L.length ≤ 12 := by omega
  obtain ⟨b0, p0, rfl, c0⟩ := hdr_cell (HG.out.below HBw1.out).mem hh0
  rw [Nat.add_zero] at c0
  clear hac hh0 hrow
  cases hp : inR p 0 ((h0.L.length : Int) - 1)
  · have HP := Lib.hid hp
    have HV := Lib.hid (show sfOk (lns hs) C p = false by rw [sfOk, HOK.out, HR0.out, hp]; rfl)
    clear hp
    go_wp2_with (go_at_call 46; refine (within_any _ _ _ _).mono ?_; rintro e w' ⟨he, rfl⟩; rw [HP.out] at he; subst he)
    have hbF : Below w.heap.size w ((((w1.setCell ⟨w.heap.size, 0, none⟩ (.int .i64 0)).setCell ⟨w.heap.size, 1, none⟩ (.int .i64 0)).setCell ⟨w.heap.size, 2, none⟩ (.int .i64 0)).setCell ⟨w.heap.size, 3, none⟩ (.slice none 0 0)) := ((((HBw1.out.setCell (by (try dsimp only); omega) _).setCell (by (try dsimp only); omega) _).setCell (by (try dsimp only); omega) _).setCell (by (try dsimp only); omega) _)
    have HZZ : Blk ((((w1.setCell ⟨w.heap.size, 0, none⟩ (.int .i64 0)).setCell ⟨w.heap.size, 1, none⟩ (.int .i64 0)).setCell ⟨w.heap.size, 2, none⟩ (.int .i64 0)).setCell ⟨w.heap.size, 3, none⟩ (.slice none 0 0)) w.heap.size #[.int .i64 0, .int .i64 0, .int .i64 0, .slice none 0 0] 29 := ((((BZw1.out.set 0 _).set 1 _).set 2 _).set 3 _)
    generalize ((((w1.setCell ⟨w.heap.size, 0, none⟩ (.int .i64 0)).setCell ⟨w.heap.size, 1, none⟩ (.int .i64 0)).setCell ⟨w.heap.size, 2, none⟩ (.int .i64 0)).setCell ⟨w.heap.size, 3, none⟩ (.slice none 0 0)) = WF at *
    have C0 : WF.cell? ⟨w.heap.size, 0, none⟩ = some (.int .i64 0) := (HZZ.cell 0).trans rfl
    have C1 : WF.cell? ⟨w.heap.size, 1, none⟩ = some (.int .i64 0) := (HZZ.cell 1).trans rfl
    have C2 : WF.cell? ⟨w.heap.size, 2, none⟩ = some (.int .i64 0) := (HZZ.cell 2).trans rfl
    have C3 : WF.cell? ⟨w.heap.size, 3, none⟩ = some (.slice none 0 0) := (HZZ.cell 3).trans rfl
    refine bodyPost_ret (v := .tuple #[.agg #[.int .i64 0, .int .i64 0, .int .i64 0, .slice none 0 0], .bool false]) (by simp [results, Try.results10, go_sem, C0, C1, C2, C3]) rfl ?_
    obtain ⟨g1, g2, g3⟩ := e0.out HV.out
    rw [g1, g2, g3, HV.out]
    exact ⟨none, 0, rfl, World.ownsRow_nil _ _ _ _, hbF⟩

  have HP := Lib.hid hp
  have HV := Lib.hid (show sfOk (lns hs) C p = true by rw [sfOk, HOK.out, HR0.out, hp]; rfl)
  have hp2 := inR_iff.1 hp
  obtain ⟨j, rfl⟩ : ∃ j : Nat, p = (j : Int) := ⟨p.toNat, by omega⟩
  have hj : j < row0 (lns hs) := by rw [HR0.out]; omega
  clear hp
  go_wp2_with (go_at_call 46; refine (within_any _ _ _ _).mono ?_; rintro e w' ⟨he, rfl⟩; rw [HP.out] at he; subst he)
  refine (sheetOf_any _ _ hs _ _ C j _ (HG.out.below HBw1.out) (HC.out.below HBw1.out) HOK.out hj).mono ?_
  rintro e w2 ⟨A2, c2, rfl, ho, hq2⟩
  have BZw2 := Lib.hid (BZw1.out.below hq2 lw1)
  have HBw2 := Lib.hid (Below.next hq2 HBw1.out HBw1.out.size)
  have zw2_0 : w2.cell? ⟨w.heap.size, 0, none⟩ = some (.int .i64 0) := (BZw2.out.cell 0).trans rfl
  have yw2_0 : w2.frozen? ⟨w.heap.size, 0, none⟩ = false := BZw2.out.frozen 0
  have zw2_1 : w2.cell? ⟨w.heap.size, 1, none⟩ = some (.int .i64 0) := (BZw2.out.cell 1).trans rfl
  have yw2_1 : w2.frozen? ⟨w.heap.size, 1, none⟩ = false := BZw2.out.frozen 1
  have zw2_2 : w2.cell? ⟨w.heap.size, 2, none⟩ = some (.int .i64 0) := (BZw2.out.cell 2).trans rfl
  have yw2_2 : w2.frozen? ⟨w.heap.size, 2, none⟩ = false := BZw2.out.frozen 2
  have zw2_3 : w2.cell? ⟨w.heap.size, 3, none⟩ = some (.slice none 0 0) := (BZw2.out.cell 3).trans rfl
  have yw2_3 : w2.frozen? ⟨w.heap.size, 3, none⟩ = false := BZw2.out.frozen 3
  have lw2 := BZw2.out.lt
  have HNE : (Value.slice A2 (soTo (lns hs) C j C.length).length c2).ownBlock ≠ some w.heap.size := fun e => by have := (ho.lt _ e).1; omega
  have hz1 := HBw1.out.size
  clear zw1_0 zw1_1 zw1_2 zw1_3 yw1_0 yw1_1 yw1_2 yw1_3 c0
  go_wp2_with fail
  have hbF : Below w.heap.size w ((((w2.setCell ⟨w.heap.size, 0, none⟩ (.int .i64 (j : Int))).setCell ⟨w.heap.size, 1, none⟩ (.int .i64 (soS (lns hs) j).x)).setCell ⟨w.heap.size, 2, none⟩ (.int .i64 (soS (lns hs) j).y)).setCell ⟨w.heap.size, 3, none⟩ (.slice A2 (soTo (lns hs) C j C.length).length c2)) := ((((HBw2.out.setCell (by (try dsimp only); omega) _).setCell (by (try dsimp only); omega) _).setCell (by (try dsimp only); omega) _).setCell (by (try dsimp only); omega) _)
  have HZZ : Blk ((((w2.setCell ⟨w.heap.size, 0, none⟩ (.int .i64 (j : Int))).setCell ⟨w.heap.size, 1, none⟩ (.int .i64 (soS (lns hs) j).x)).setCell ⟨w.heap.size, 2, none⟩ (.int .i64 (soS (lns hs) j).y)).setCell ⟨w.heap.size, 3, none⟩ (.slice A2 (soTo (lns hs) C j C.length).length c2)) w.heap.size #[.int .i64 (j : Int), .int .i64 (soS (lns hs) j).x, .int .i64 (soS (lns hs) j).y, .slice A2 (soTo (lns hs) C j C.length).length c2] 29 := ((((BZw2.out.set 0 _).set 1 _).set 2 _).set 3 _)
  have hOF : ((((w2.setCell ⟨w.heap.size, 0, none⟩ (.int .i64 (j : Int))).setCell ⟨w.heap.size, 1, none⟩ (.int .i64 (soS (lns hs) j).x)).setCell ⟨w.heap.size, 2, none⟩ (.int .i64 (soS (lns hs) j).y)).setCell ⟨w.heap.size, 3, none⟩ (.slice A2 (soTo (lns hs) C j C.length).length c2)).ownsRow w1.heap.size 83 3 (.slice A2 (soTo (lns hs) C j C.length).length c2) (soTo (lns hs) C j C.length).length (rows (soTo (lns hs) C j C.length)) := own_othS (own_othS (own_othS (own_othS ho HNE) HNE) HNE) HNE
  generalize ((((w2.setCell ⟨w.heap.size, 0, none⟩ (.int .i64 (j : Int))).setCell ⟨w.heap.size, 1, none⟩ (.int .i64 (soS (lns hs) j).x)).setCell ⟨w.heap.size, 2, none⟩ (.int .i64 (soS (lns hs) j).y)).setCell ⟨w.heap.size, 3, none⟩ (.slice A2 (soTo (lns hs) C j C.length).length c2)) = WF at *
  have C0 : WF.cell? ⟨w.heap.size, 0, none⟩ = some (.int .i64 (j : Int)) := (HZZ.cell 0).trans rfl
  have C1 : WF.cell? ⟨w.heap.size, 1, none⟩ = some (.int .i64 (soS (lns hs) j).x) := (HZZ.cell 1).trans rfl
  have C2 : WF.cell? ⟨w.heap.size, 2, none⟩ = some (.int .i64 (soS (lns hs) j).y) := (HZZ.cell 2).trans rfl
  have C3 : WF.cell? ⟨w.heap.size, 3, none⟩ = some (.slice A2 (soTo (lns hs) C j C.length).length c2) := (HZZ.cell 3).trans rfl
  refine bodyPost_ret (v := .tuple #[.agg #[.int .i64 (j : Int), .int .i64 (soS (lns hs) j).x, .int .i64 (soS (lns hs) j).y, .slice A2 (soTo (lns hs) C j C.length).length c2], .bool true]) (by simp [results, Try.results10, go_sem, C0, C1, C2, C3]) rfl ?_
  obtain ⟨g1, g2, g3⟩ := e1.out HV.out
  rw [g1, g2, g3, HV.out]
  exact ⟨A2, c2, rfl, own_base hOF hz1, hbF⟩

end Go.Proofs.Ytbgbcajcajaocaa
