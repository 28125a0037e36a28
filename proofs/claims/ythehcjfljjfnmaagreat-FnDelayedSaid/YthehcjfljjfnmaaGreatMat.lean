/-
  The reference's table of least sums over sets of columns.
-/
import Derived.Test.YthehcjfljjfnmaaGreatBase
import Derived.StillTailTactics
import Derived.IntWalk
namespace Go.Proofs.YthehcjfljjfnmaaGreat
open Go.RowKit

theorem upon_make {P : Program} (w : World) {o : Oper} {a : Act} {K : Act → World → Prop} {Q : Exit → Act → World → Prop}
    (t e : TypeId) (i : TypeInfo) (z : Value) (size : Nat) (h1 : P.underlying t = some (.slice e)) (h2 : P.info? e = some i) (h3 : i.zero = some z) (h4 : i.size = size)
    (k : IntKind) (n : Nat) (b2 : i.bytes * n ≤ 281474976710656) (b3 : n ≤ maxLen)
    (hK : ∀ w', w'.ownsRow w.heap.size e size (.slice (some ⟨w.heap.size, 0, none⟩) n n) n (madeCells z.cells (n * size)).toList → w.grownBy w' none → K (a.put o.dst (.slice (some ⟨w.heap.size, 0, none⟩) n n)) w') :
    Oper.upon P o a K Q ((Sem.run P (Instr.makeSlice t (.int k (n : Int)) (.int k (n : Int))) w).andThen fun a w' => Result.ok (Next.value a) w') := by
  obtain ⟨w', hrun, r1, r2⟩ := run_make_full (P := P) w w.heap.size t e i z size h1 h2 h3 h4 k k n b2 b3 (Nat.le_refl _)
  rw [hrun]
  exact hK w' r1 r2

def zeros (n : Nat) : List Int := List.replicate n 0
theorem made_zeros (n : Nat) : (madeCells #[Value.int .i64 0] (n * 1)).toList = ints (zeros n) := made_flat (fun n : Int => [Value.int .i64 n]) 1 0 (by omega) (fun _ => rfl) n
theorem made_row {w : World} {base : Nat} {e : TypeId} {g' : Nat} (g : Nat) {n : Nat} (h : w.ownsRow base e 1 (.slice (some ⟨g', 0, none⟩) n n) n (madeCells (Value.int .i64 0).cells (n * 1)).toList) (hg : g' = g) : w.ownsRow base e 1 (.slice (some ⟨g, 0, none⟩) n n) n (ints (zeros n)) := by
  subst hg
  rw [← made_zeros]
  exact h
/-- A square table of costs in memory: n rows, each of n numbers. -/
def Cst (w : World) (A : Option Addr) (n : Nat) (hs : List (Option Addr × Nat)) (c : Nat → Nat → Int) : Prop :=
  hs.length = n ∧ Mem w A (hs.flatMap fun h => [Value.slice h.1 n h.2]) ∧ ∀ (j : Nat) (h : Option Addr × Nat), hs[j]? = some h → Mem w h.1 (ints ((List.range n).map (c j)))
theorem Cst.below {w w' : World} {A : Option Addr} {n : Nat} {hs : List (Option Addr × Nat)} {c : Nat → Nat → Int} (h : Cst w A n hs c) (hb : Below w.heap.size w w') : Cst w' A n hs c :=
  ⟨h.1, h.2.1.below hb, fun j x hx => (h.2.2 j x hx).below hb⟩
theorem Cst.row {w : World} {A : Option Addr} {n : Nat} {hs : List (Option Addr × Nat)} {c : Nat → Nat → Int} (h : Cst w A n hs c) {j : Nat} (hj : j < n) :
    ∃ b off B d, A = some ⟨b, off, none⟩ ∧ w.cell? ⟨b, off + j, none⟩ = some (.slice B n d) ∧ Mem w B (ints ((List.range n).map (c j))) := by
  obtain ⟨x, hx⟩ := some_of_lt (L := hs) (k := j) (by have := h.1; omega)
  obtain ⟨b, off, e, hc⟩ := Mem.elem (f := fun h : Option Addr × Nat => [Value.slice h.1 n h.2]) (sz := 1) (fun _ => rfl) h.2.1 hx (by omega)
  exact ⟨b, off, x.1, x.2, e, by simpa using hc 0 _ rfl, h.2.2 j x hx⟩
/-- The table's numbers for the sets below s. -/
def tabTo (c : Nat → Nat → Int) (n s : Nat) : List Int := (List.range (2 ^ n)).map fun x => if x < s then tab c n (pop n x) x else 0

theorem xor_lt {s k : Nat} (h : s.testBit k = true) : s ^^^ 2 ^ k < s := by
  have h1 : s ^^^ 2 ^ k = s &&& (s ^^^ 2 ^ k) := by
    apply Nat.eq_of_testBit_eq
    intro j
    rw [Nat.testBit_and, Nat.testBit_xor, tb_pow]
    by_cases e : k = j
    · subst e; simp [h]
    · simp [e]
  have h2 : s ^^^ 2 ^ k ≤ s := by rw [h1]; exact Nat.and_le_left
  have h3 : s ^^^ 2 ^ k ≠ s := fun e => by
    have : (s ^^^ 2 ^ k).testBit k = false := by rw [Nat.testBit_xor, h, tb_pow]; simp
    rw [e, h] at this
    cases this
  omega
theorem pop_pos {n s : Nat} (h1 : 1 ≤ s) (h2 : s < 2 ^ n) : 1 ≤ pop n s := by
  induction n with
  | zero => omega
  | succ n ih =>
    rw [pop]
    by_cases h : s < 2 ^ n
    · have := ih h; omega
    · have hb : s.testBit n = true := by
        rw [Nat.testBit_eq_decide_div_mod_eq]
        have e : s / 2 ^ n = 1 := by
          rw [Nat.div_eq_of_lt_le] <;> (try rw [Nat.pow_succ] at h2) <;> omega
        simp [e]
      rw [hb]; simp
theorem tabTo_one {c : Nat → Nat → Int} {n P : Nat} (hP : 2 ^ n = P) : tabTo c n 1 = zeros P := by
  unfold tabTo zeros
  rw [hP]
  apply List.ext_getElem?
  intro k
  by_cases hk : k < P
  · simp [hk]
    intro h0
    subst h0
    have : ∀ n, pop n 0 = 0 := by
      intro n
      induction n with
      | zero => rfl
      | succ n ih => rw [pop, ih]; simp
    rw [this]; rfl
  · simp [hk]
theorem raw_shift {k : Nat} (hk : k ≤ 40) : IntKind.i64.wrap ((2 : Int) ^ min (IntKind.u64.wrap (k : Int)).toNat 64) = wrap64 (2 ^ k) := by
  have h1 : IntKind.u64.wrap (k : Int) = k := by
    have : IntKind.u64.wrap (k : Int) = (k : Int) % 18446744073709551616 := by
      simp [IntKind.wrap]
      try rfl
    rw [this]
    omega
  rw [h1, Int.toNat_natCast, Nat.min_eq_left (by omega), pow_cast, wrap_nat (pow_le hk)]
  have h2 := pow_le hk
  generalize 2 ^ k = m at h2
  exact IntWalk.i64_in _ (by omega)
theorem tabTo_succ {c : Nat → Nat → Int} {n s q P : Nat} (hP : 2 ^ n = P) (hs : s < P) (hq : pop n s = q) (h1 : 1 ≤ q) : tabTo c n (s + 1) = (tabTo c n s).set s (mnT (fun k => c (n - q) k + tab c n (q - 1) (s ^^^ 2 ^ k)) s n) := by
  obtain ⟨f, rfl⟩ : ∃ f, q = f + 1 := ⟨q - 1, by omega⟩
  apply List.ext_getElem?
  intro i
  by_cases hi : i < P
  · by_cases e : s = i
    · subst e
      rw [List.getElem?_set_self (by simp [tabTo, hP, hs])]
      have h2 : (tabTo c n (s + 1))[s]? = some (tab c n (pop n s) s) := by simp [tabTo, hP, hs]
      rw [h2, hq, tab]
      rfl
    · rw [List.getElem?_set_ne e]
      have h3 : (i < s + 1) ↔ (i < s) := by omega
      simp [tabTo, hP, hi, h3]
  · rw [List.getElem?_eq_none (by simp [tabTo, hP]; omega), List.getElem?_eq_none (by simp [tabTo, hP]; omega)]
theorem mnT_bd {g : Nat → Int} {s : Nat} : ∀ {k : Nat}, (∀ j, j < k → 0 ≤ g j) → 0 ≤ mnT g s k ∧ mnT g s k ≤ 1000000000
  | 0, _ => by rw [mnT]; omega
  | k + 1, h => by
    have ih := mnT_bd (g := g) (s := s) (k := k) (fun j hj => h j (by omega))
    have h0 := h k (by omega)
    rw [mnT]
    split <;> omega
theorem tab_bd {c : Nat → Nat → Int} {n : Nat} (hc : ∀ i k, i < n → k < n → 0 ≤ c i k ∧ c i k ≤ 2100000) : ∀ f s, f ≤ n → 0 ≤ tab c n f s ∧ tab c n f s ≤ 1000000000
  | 0, s, _ => by rw [tab]; omega
  | f + 1, s, hf => by
    rw [tab]
    exact mnT_bd (fun j hj => by
      have := hc (n - (f + 1)) j (by omega) hj
      have := tab_bd hc f (s ^^^ 2 ^ j) (by omega)
      omega)
set_option maxRecDepth 100000 in
set_option maxHeartbeats 1600000 in
theorem maTable_any (A : Option Addr) (cap n : Nat) (hs : List (Option Addr × Nat)) (c : Nat → Nat → Int) (w : World) (hn : 1 ≤ n) (hn2 : n ≤ 12) (hC : Cst w A n hs c) (hc : ∀ i k, i < n → k < n → 0 ≤ c i k ∧ c i k ≤ 2100000) :
    Calls Tryz.prog 111 #[.slice A n cap] w fun e w' => ∃ g, e = .returned (.slice (some ⟨g, 0, none⟩) (2 ^ n) (2 ^ n)) ∧ w'.ownsRow w.heap.size 3 1 (.slice (some ⟨g, 0, none⟩) (2 ^ n) (2 ^ n)) (2 ^ n) (ints (tabTo c n (2 ^ n))) ∧ Below w.heap.size w w' := by
  obtain ⟨i0, hi, hz0, hz1, hz2⟩ := info_parts info_int
  have hp := Nat.pow_le_pow_right (show 0 < 2 by omega) hn2
  have hp1 : 1 ≤ 2 ^ n := Nat.one_le_two_pow
  have HC := Lib.hid hC
  have HB := Lib.hid hc
  clear hC hc
  go_enter Tryz.func111, Tryz.ntmps111
  obtain ⟨P, hP⟩ : ∃ P : Nat, 2 ^ n = P := ⟨_, rfl⟩
  rw [hP] at hp hp1
  have hP12 : P ≤ 4096 := hp
  have hw : wrap64 ((2 : Int) ^ n) = (P : Int) := by rw [pow_cast, hP]; exact wrap_nat (by omega)
  have HW := Lib.hid hw
  have HP := Lib.hid hP
  rw [hP]
  clear hw hP hp
  go_wp2_with fail
  rw [HW.out]
  refine upon_make _ 32 3 i0 (.int .i64 0) 1 Tryz.underlying32 hi hz0 hz1 _ P (by rw [hz2]; omega) (by unfold maxLen; omega) ?_
  intro w1 ho1 hg1
  have hq1 := grown_below hg1
  replace ho1 := made_row w.heap.size ho1 rfl
  have HO1 := Lib.hid ho1
  have HQ1 := Lib.hid hq1
  clear ho1 hg1 hq1
  go_wp2
  go_loopw [5] (fun v wr => ∃ s : Nat, 1 ≤ s ∧ s ≤ P ∧ v = .int .i64 s ∧ wr.ownsRow w.heap.size 3 1 (.slice (some ⟨w.heap.size, 0, none⟩) P P) P (ints (tabTo c n s)) ∧ Below w.heap.size w wr) (fun v _ => P - (intOf v).toNat)
  case atStart => exact ⟨1, by omega, by omega, rfl, by rw [tabTo_one HP.out]; exact HO1.out, HQ1.out⟩
  case round =>
    obtain ⟨s, hs1, hs2, rfl, hown, hb⟩ := hrel
    have HOW := Lib.hid hown
    have HBW := Lib.hid hb
    clear hown hb
    by_cases hlt : s < P
    · have hlt' : (s : Int) < wrap64 ((2 : Int) ^ n) := by rw [HW.out]; exact Int.ofNat_lt.2 hlt
      have hs62 : s < 4611686018427387904 := by omega
      go_wp2
      go_loop [6, 7] (fun z k => ∃ j : Nat, j ≤ n ∧ k = .int .i64 j ∧ z = .int .i64 (pop j s)) (fun _ k => n - (intOf k).toNat)
      case atStart => exact ⟨0, by omega, rfl, rfl⟩
      case round =>
        obtain ⟨j, hj, rfl, rfl⟩ := hrel
        have hpl := pop_le j s
        by_cases hjn : j < n
        · cases htb : s.testBit j
          · have hbit := bit_no hs62 htb
            have HP1 := Lib.hid (show pop (j + 1) s = pop j s by rw [pop, htb]; rfl)
            clear htb
            go_wp2
            go_round
            case rel => exact ⟨j + 1, by omega, by go_num, by rw [HP1.out]⟩
            case measure => simp [intOf]; omega
          · have hbit := bit_yes hs62 htb
            have HP1 := Lib.hid (show pop (j + 1) s = pop j s + 1 by rw [pop, htb]; rfl)
            clear htb
            go_wp2
            go_round
            case rel => exact ⟨j + 1, by omega, by go_num, by rw [HP1.out]; simp⟩
            case measure => simp [intOf]; omega
        · obtain rfl : n = j := by omega
          have hpos := pop_pos hs1 (show s < 2 ^ n by rw [HP.out]; exact hlt)
          obtain ⟨q, hq⟩ : ∃ q, pop n s = q := ⟨_, rfl⟩
          rw [hq] at hpos hpl
          have HQ := Lib.hid hq
          have hrn : n - q < n := by omega
          obtain ⟨b, off, B, d, rfl, e0, hrow⟩ := HC.out.row hrn
          have hbw : b < w.heap.size := World.block_lt_of_cell? w _ e0
          have hbw' : w.heap.size ≠ b := by omega
          have hbw'' : b ≠ w.heap.size := by omega
          have e1 := keep1 HBW.out e0
          have HROW := Lib.hid hrow
          have fz := HOW.out.frozenAt s
          have hts : (tabTo c n s)[s]? = some 0 := by simp [tabTo, HP.out, hlt]
          obtain ⟨_, _, eq1, hcs⟩ := Mem.int (Mem.of_own HOW.out) hts
          cases eq1
          rw [Nat.zero_add] at hcs
          clear hj hjn hrow hts e0
          rw [hq]
          clear hq
          go_wp2
          have st := (HOW.out.stored s (.int .i64 1000000000)).1
          rw [← ints_set] at st
          have B1 : Below w.heap.size w (wr.setCell ⟨w.heap.size, s, none⟩ (.int .i64 1000000000)) := HBW.out.setCell (Nat.le_refl _) _
          clear fz hcs e1
          generalize wr.setCell ⟨w.heap.size, s, none⟩ (.int .i64 1000000000) = w3 at *
          have ST := Lib.hid st
          have B3 := Lib.hid B1
          clear st B1
          go_loopw [45] (fun v wr => ∃ k : Nat, k ≤ n ∧ v = .int .i64 k ∧ wr.ownsRow w.heap.size 3 1 (.slice (some ⟨w.heap.size, 0, none⟩) P P) P (ints ((tabTo c n s).set s (mnT (fun k => c (n - q) k + tab c n (q - 1) (s ^^^ 2 ^ k)) s k))) ∧ Below w.heap.size w wr) (fun v _ => n - (intOf v).toNat)
          case atStart => exact ⟨0, by omega, rfl, ST.out, B3.out⟩
          case round =>
            obtain ⟨k, hk, rfl, hown, hb⟩ := hrel
            have HO := Lib.hid hown
            have HB4 := Lib.hid hb
            clear hown hb
            by_cases hkn : k < n
            · have hck : ((List.range n).map (c (n - q)))[k]? = some (c (n - q) k) := by simp [hkn]
              obtain ⟨bB, oB, rfl, e2⟩ := HROW.out.int hck
              have hbB : bB < w.heap.size := World.block_lt_of_cell? w _ e2
              have n1 : w.heap.size ≠ bB := by omega
              have n2 : bB ≠ w.heap.size := by omega
              have e3 := keep1 HB4.out e2
              have hcb := HB.out (n - q) k hrn hkn
              obtain ⟨ck, hckv⟩ : ∃ v, c (n - q) k = v := ⟨_, rfl⟩
              rw [hckv] at e3 hcb
              have HCK := Lib.hid hckv
              clear hck e2 hckv
              cases htb : s.testBit k
              · have hbit := bit_no hs62 htb
                have HM := Lib.hid (show mnT (fun k => c (n - q) k + tab c n (q - 1) (s ^^^ 2 ^ k)) s (k + 1) = mnT (fun k => c (n - q) k + tab c n (q - 1) (s ^^^ 2 ^ k)) s k by rw [mnT, htb]; rfl)
                clear htb
                go_wp2
                go_roundw
                case rel => exact ⟨k + 1, by omega, by go_num, by rw [HM.out]; exact HO.out, HB4.out⟩
                case measure => simp [intOf]; omega
              · have hbit := bit_yes hs62 htb
                have HM := Lib.hid (show mnT (fun k => c (n - q) k + tab c n (q - 1) (s ^^^ 2 ^ k)) s (k + 1) = min (mnT (fun k => c (n - q) k + tab c n (q - 1) (s ^^^ 2 ^ k)) s k) (c (n - q) k + tab c n (q - 1) (s ^^^ 2 ^ k)) by rw [mnT, htb]; rfl)
                have hxl : s ^^^ 2 ^ k < s := xor_lt htb
                have hxor := bit_xor hs62 (show k ≤ 40 by omega)
                have HPX := Lib.hid (show pop n (s ^^^ 2 ^ k) = q - 1 by have := pop_xor htb n; rw [if_pos hkn, HQ.out] at this; omega)
                clear htb
                obtain ⟨x, hx⟩ : ∃ x, s ^^^ 2 ^ k = x := ⟨_, rfl⟩
                rw [hx] at hxl hxor HPX HM
                have HXX := Lib.hid hx
                obtain ⟨tv, htv⟩ : ∃ v, tab c n (q - 1) x = v := ⟨_, rfl⟩
                have htb2 : 0 ≤ tv ∧ tv ≤ 1000000000 := by rw [← htv]; exact tab_bd HB.out (q - 1) x (by omega)
                obtain ⟨mv, hmv⟩ : ∃ v, mnT (fun k => c (n - q) k + tab c n (q - 1) (s ^^^ 2 ^ k)) s k = v := ⟨_, rfl⟩
                have hmb : 0 ≤ mv ∧ mv ≤ 1000000000 := by rw [← hmv]; exact mnT_bd (fun j hj => by have := HB.out (n - q) j hrn (by omega); have := tab_bd HB.out (q - 1) (s ^^^ 2 ^ j) (by omega); omega)
                have HTV := Lib.hid htv
                have HMV := Lib.hid hmv
                rw [hmv] at HO HM
                rw [htv, HCK.out] at HM
                have hts : ((tabTo c n s).set s mv)[s]? = some mv := by rw [List.getElem?_set_self (by simp [tabTo, HP.out, hlt])]
                have htx : ((tabTo c n s).set s mv)[x]? = some tv := by
                  rw [List.getElem?_set_ne (by omega)]
                  have hxP : x < P := by omega
                  simp [tabTo, HP.out, hxP, hxl, HPX.out, htv]
                obtain ⟨_, _, eq1, g1⟩ := Mem.int (Mem.of_own HO.out) hts
                cases eq1
                obtain ⟨_, _, eq2, g2⟩ := Mem.int (Mem.of_own HO.out) htx
                cases eq2
                rw [Nat.zero_add] at g1 g2
                have fz := HO.out.frozenAt s
                have g1' : wr.drew.cell? ⟨w.heap.size, s, none⟩ = some (.int .i64 mv) := g1
                have g2' : wr.drew.cell? ⟨w.heap.size, x, none⟩ = some (.int .i64 tv) := g2
                have fz' : wr.drew.frozen? ⟨w.heap.size, s, none⟩ = false := fz
                have hxP : x < P := by omega
                have hraw := raw_shift (k := k) (by omega)
                have hxor2 : bits .xor .i64 (s : Int) (IntKind.i64.wrap (2 ^ min (IntKind.u64.wrap (k : Int)).toNat 64)) = (x : Int) := by rw [hraw]; exact hxor
                have hsum : IntKind.i64.wrap (ck + tv) = ck + tv := IntWalk.i64_in _ (by omega)
                clear hraw
                have O5 := Lib.hid (own_drew HO.out)
                have B5 := Lib.hid (Below.drew HB4.out)
                clear hx htv hmv hts htx g2 fz
                go_wp2_with fail
                clear e3 g1
                refine wp_region_still_tail 18 (by kernel_rfl) (by kernel_rfl) ?_
                change wpStill _ _ wr.drew (fun a' => wpList _ _ _ _ a' wr.drew) _ _
                generalize wr.drew = w5 at *
                simp only [List.take_succ_cons, List.take_zero, List.drop_succ_cons, List.drop_zero]
                repeat still_step
                still_call ((l1Least_any mv (ck + tv) _).mono fun _ _ ⟨h1, h2⟩ => ⟨h1, h2.symm⟩)
                repeat still_step
                refine wpStill_nil ?_
                go_wp2
                go_roundw
                case rel =>
                  have st2 := (O5.out.stored s (.int .i64 (min mv (ck + tv)))).1
                  rw [← ints_set, List.set_set] at st2
                  exact ⟨k + 1, by omega, by go_num, by rw [HM.out]; exact st2, B5.out.setCell (Nat.le_refl _) _⟩
                case measure => simp [intOf]; omega
            · obtain rfl : k = n := by omega
              have HT := Lib.hid (tabTo_succ (c := c) HP.out hlt HQ.out hpos)
              go_wp2
              go_roundw
              case rel => exact ⟨s + 1, by omega, by omega, by go_num, by rw [HT.out]; exact HO.out, HB4.out⟩
              case measure => simp [intOf]; omega
    · have hlt' : wrap64 ((2 : Int) ^ n) ≤ (s : Int) := by rw [HW.out]; omega
      go_wp2
      go_ret
      have e1 : s = P := by omega
      subst e1
      exact ⟨_, rfl, HOW.out, HBW.out⟩
end Go.Proofs.YthehcjfljjfnmaaGreat
