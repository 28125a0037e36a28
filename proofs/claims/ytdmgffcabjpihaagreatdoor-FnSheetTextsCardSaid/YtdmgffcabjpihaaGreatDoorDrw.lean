/-
  The reference's draws: choices out of bytes. What is drawn is not said, only in which bounds it lies; the cursor's block turns, all else stays.
-/
import Derived.Test.YtdmgffcabjpihaaGreatDoorLeaf
import Derived.Test.YtdmgffcabjpihaaGreatDoorMem
import Derived.Test.YtdmgffcabjpihaaGreatDoorKeep
import Derived.BigQuiet
import Derived.IntWalk
import Derived.Laws.Bits64b
import Derived.Lib.QuietBelow
import Derived.Lib.Hide
namespace Go.Proofs.YtdmgffcabjpihaaGreatDoor
open Go.RowKit

/-- All blocks but g stay. -/
structure Oth (g : Nat) (w w' : World) : Prop where
  os : w'.os = w.os
  tape : w'.tape = w.tape
  output : w'.output = w.output
  size : w.heap.size ≤ w'.heap.size
  block : ∀ k, k < w.heap.size → k ≠ g → w'.heap[k]? = w.heap[k]?
theorem Oth.refl (g : Nat) (w : World) : Oth g w w := ⟨rfl, rfl, rfl, Nat.le_refl _, fun _ _ _ => rfl⟩
theorem Oth.trans {g : Nat} {a b c : World} (h : Oth g a b) (k : Oth g b c) : Oth g a c :=
  ⟨k.os.trans h.os, k.tape.trans h.tape, k.output.trans h.output, Nat.le_trans h.size k.size, fun i hi hne => (k.block i (Nat.lt_of_lt_of_le hi h.size) hne).trans (h.block i hi hne)⟩
theorem Oth.drew {g : Nat} {a w : World} (h : Oth g a w) : Oth g a w.drew := ⟨h.os, h.tape, h.output, h.size, h.block⟩
theorem Oth.drewN {g : Nat} {a w : World} (h : Oth g a w) (n : Nat) : Oth g a (w.drewN n) := ⟨h.os, h.tape, h.output, h.size, h.block⟩
theorem Oth.alloc {g : Nat} {a w : World} (h : Oth g a w) (o : Obj) : Oth g a (w.alloc o) :=
  h.trans ⟨rfl, rfl, rfl, by simp, fun k hk _ => Below.heap_alloc _ _ _ hk⟩
theorem Oth.set {g : Nat} {a w : World} (h : Oth g a w) {p : Addr} (hp : p.block = g ∨ a.heap.size ≤ p.block) (u : Value) : Oth g a (w.setCell p u) :=
  ⟨h.os, h.tape, h.output, by simpa [World.setCell] using h.size, fun k hk hne => by
    rw [Below.heap_setCell w p u k (by rintro rfl; rcases hp with hp | hp; exact hne hp; omega)]; exact h.block k hk hne⟩
theorem Oth.below {g B : Nat} {w w' : World} (h : Oth g w w') (hB : B ≤ g) (hg : g ≤ w.heap.size) : Below B w w' :=
  ⟨h.os, h.tape, h.output, h.size, fun k hk => h.block k (by omega) (by omega)⟩
theorem Oth.of_below {g : Nat} {w w' : World} (h : Below w.heap.size w w') : Oth g w w' := ⟨h.os, h.tape, h.output, h.size, fun k hk _ => h.block k hk⟩
theorem Oth.of_grown {g : Nat} {a w w' : World} {row : Option Nat} (h : Oth g a w) (hg : w.grownBy w' row) (hr : ∀ k, row = some k → k = g ∨ a.heap.size ≤ k) : Oth g a w' :=
  ⟨hg.os.trans h.os, hg.tape.trans h.tape, hg.output.trans h.output, Nat.le_trans h.size hg.size, fun k hk hne =>
    (hg.block k (Nat.lt_of_lt_of_le hk h.size) (fun e => by rcases hr k e.symm with h1 | h1 <;> omega)).trans (h.block k hk hne)⟩
theorem Oth.blk {g b : Nat} {w w' : World} {cs : Array Value} {t : TypeId} (h : Oth g w w') (hb : Blk w b cs t) (hne : b ≠ g) : Blk w' b cs t := (h.block b hb.lt hne).trans hb
theorem Oth.own {g base : Nat} {w w' : World} {e : TypeId} {size : Nat} {v : Value} {n : Nat} {xs : List Value} (h : Oth g w w') (ho : w.ownsRow base e size v n xs) (hg : g < base) : w'.ownsRow base e size v n xs := by
  refine ⟨ho.1, ?_⟩
  rcases ho.2 with h2 | ⟨k, cap, cur, h2, h3, h4, h5⟩
  · exact .inl h2
  · exact .inr ⟨k, cap, cur, h2, h3, (h.block k (Array.getElem?_eq_some_iff.1 h4).1 (by omega)).trans h4, h5⟩

/-- Bytes of which the block lies ahead of g. -/
def MemB (w : World) (g : Nat) (A : Option Addr) (xs : List Value) : Prop :=
  xs ≠ [] → ∃ b off, A = some ⟨b, off, none⟩ ∧ b < g ∧ ∀ j u, xs[j]? = some u → w.cell? ⟨b, off + j, none⟩ = some u
def bytes (L : List Int) : List Value := L.flatMap fun n => [Value.int .u8 n]
theorem bytes_at {L : List Int} {j : Nat} {n : Int} (h : L[j]? = some n) : (bytes L)[j]? = some (.int .u8 n) := by
  have := flat_get (fun n : Int => [Value.int .u8 n]) 1 (fun _ => rfl) L j n h 0 (by omega)
  simpa [bytes] using this
theorem MemB.of {w : World} {A : Option Addr} {xs : List Value} (h : Mem w A xs) : MemB w w.heap.size A xs := fun hne => by
  obtain ⟨b, off, e, hc⟩ := h hne
  have h0 : 0 < xs.length := by cases xs with | nil => exact absurd rfl hne | cons => simp
  exact ⟨b, off, e, World.block_lt_of_cell? w _ (hc 0 _ (List.getElem?_eq_getElem h0)), hc⟩
theorem MemB.oth {w w' : World} {g : Nat} {A : Option Addr} {xs : List Value} (h : MemB w g A xs) (ho : Oth g w w') (hg : g ≤ w.heap.size) : MemB w' g A xs := fun hne => by
  obtain ⟨b, off, e, hb, hc⟩ := h hne
  refine ⟨b, off, e, hb, fun j u hu => ?_⟩
  have h1 := hc j u hu
  exact (World.cell?_of_block (a := ⟨b, off + j, none⟩) (ho.block b (by omega) (by omega))).trans h1

/-- The cursor in block g: at most k bytes have been asked for. -/
def Cur (w : World) (g k : Nat) : Prop :=
  ∃ (A : Option Addr) (c : Nat) (L : List Int) (p : Nat) (s : Int), Blk w g #[.slice A L.length c, .int .i64 p, .int .u64 s] 74 ∧ MemB w g A (bytes L) ∧ (∀ x ∈ L, 0 ≤ x ∧ x ≤ 255) ∧ L.length ≤ 9223372036854775807 ∧ p ≤ k ∧ 0 ≤ s ∧ s ≤ 18446744073709551615
theorem Cur.lt {w : World} {g k : Nat} (h : Cur w g k) : g < w.heap.size := by
  obtain ⟨A, c, L, p, s, hb, _⟩ := h
  exact hb.lt
theorem Cur.mono {w : World} {g k k' : Nat} (h : Cur w g k) (hk : k ≤ k') : Cur w g k' := by
  obtain ⟨A, c, L, p, s, hb, h1, h2, h3, h4, h5⟩ := h
  exact ⟨A, c, L, p, s, hb, h1, h2, h3, by omega, h5⟩
theorem Cur.below {w w' : World} {g k B : Nat} (h : Cur w g k) (hb : Below B w w') (hg : g < B) : Cur w' g k := by
  obtain ⟨A, c, L, p, s, hb1, h1, h2, h3, h4, h5⟩ := h
  refine ⟨A, c, L, p, s, hb1.below hb hg, fun hne => ?_, h2, h3, h4, h5⟩
  obtain ⟨b, off, e, hb2, hc⟩ := h1 hne
  exact ⟨b, off, e, hb2, fun j u hu => (World.cell?_of_block (a := ⟨b, off + j, none⟩) (hb.block b (by omega))).trans (hc j u hu)⟩
theorem Cur.put {w : World} {g k b : Nat} {u v : Value} (h : Cur w g k) (hb : g < b) : Cur ((w.setCell ⟨b, 0, none⟩ u).setCell ⟨b, 1, none⟩ v) g k :=
  h.below (((Below.refl b w).setCell (Nat.le_refl _) _).setCell (Nat.le_refl _) _) hb
theorem Cur.put1 {w : World} {g k : Nat} {p : Addr} {u : Value} (h : Cur w g k) (hb : g < p.block) : Cur (w.setCell p u) g k :=
  h.below ((Below.refl p.block w).setCell (Nat.le_refl _) _) hb
theorem Cur.alloc {w : World} {g k : Nat} (h : Cur w g k) (o : Obj) : Cur (w.alloc o) g k := h.below ((Below.refl w.heap.size w).alloc (Nat.le_refl _) o) h.lt
theorem Cur.new {w : World} {A : Option Addr} {c : Nat} {L : List Int} (hm : Mem w A (bytes L)) (hL : ∀ x ∈ L, 0 ≤ x ∧ x ≤ 255) (hl : L.length ≤ 9223372036854775807) : Cur (w.alloc (.cells #[.slice A L.length c, .int .i64 0, .int .u64 0] 74)) w.heap.size 0 :=
  ⟨A, c, L, 0, 0, Blk.new _ _ _, (MemB.of hm).oth ((Oth.refl _ _).alloc _) (Nat.le_refl _), hL, hl, by omega, by omega, by omega⟩

/-- A number is drawn. -/
def Dn (g k : Nat) (lo hi : Int) (w : World) (e : Ending) (w' : World) : Prop := ∃ n : Int, e = .returned (.int .i64 n) ∧ lo ≤ n ∧ n ≤ hi ∧ Cur w' g k ∧ Oth g w w'
def Db (g k : Nat) (w : World) (e : Ending) (w' : World) : Prop := ∃ b : Bool, e = .returned (.bool b) ∧ Cur w' g k ∧ Oth g w w'
/-- A spot is drawn. -/
def Ds (g k : Nat) (d : Int) (w : World) (e : Ending) (w' : World) : Prop := ∃ x y : Int, e = .returned (.agg #[.int .i64 x, .int .i64 y]) ∧ -d ≤ x ∧ x ≤ 1280 + d ∧ -d ≤ y ∧ y ≤ 672 + d ∧ Cur w' g k ∧ Oth g w w'

theorem u64_wrap (x : Int) : IntKind.u64.wrap x = x % 18446744073709551616 := by
  simp [IntKind.wrap]
  try rfl
theorem u64_in (x : Int) : 0 ≤ IntKind.u64.wrap x ∧ IntKind.u64.wrap x ≤ 18446744073709551615 := by
  rw [u64_wrap]
  omega
theorem and255 (x : Int) : 0 ≤ wrap64 (bits .and .u64 x 255) ∧ wrap64 (bits .and .u64 x 255) ≤ 255 := by
  have h1 : bits .and .u64 x 255 = IntKind.u64.wrap ((BitVec.ofInt 64 x &&& BitVec.ofInt 64 255).toNat : Int) := rfl
  have h2 : (BitVec.ofInt 64 x &&& BitVec.ofInt 64 255).toNat ≤ 255 := by
    rw [BitVec.toNat_and]
    exact Nat.and_le_right
  generalize (BitVec.ofInt 64 x &&& BitVec.ofInt 64 255).toNat = m at h1 h2
  have h3 : IntKind.u64.wrap (m : Int) = m := by
    rw [u64_wrap]
    omega
  rw [h1, h3, IntWalk.wrap64_in _ ⟨by omega, by omega⟩]
  omega
/-- What 'next' leaves. -/
theorem cur_next {w : World} {g k c p a b : Nat} {A : Option Addr} {L : List Int} {s s' : Int} (hB : Blk w g #[.slice A L.length c, .int .i64 p, .int .u64 s] 74) (hM : MemB w g A (bytes L)) (hL : ∀ x ∈ L, 0 ≤ x ∧ x ≤ 255) (hl : L.length ≤ 9223372036854775807)
    (hp : p ≤ k) (hs : 0 ≤ s' ∧ s' ≤ 18446744073709551615) : Cur ((((w.drewN a).setCell ⟨g, 1, none⟩ (.int .i64 (↑p + 1))).setCell ⟨g, 2, none⟩ (.int .u64 s')).drewN b) g (k + 1) ∧ Oth g w ((((w.drewN a).setCell ⟨g, 1, none⟩ (.int .i64 (↑p + 1))).setCell ⟨g, 2, none⟩ (.int .u64 s')).drewN b) := by
  have ho : Oth g w ((((w.drewN a).setCell ⟨g, 1, none⟩ (.int .i64 (↑p + 1))).setCell ⟨g, 2, none⟩ (.int .u64 s')).drewN b) :=
    (((((Oth.refl g w).drewN a).set (.inl rfl) _).set (.inl rfl) _).drewN b)
  refine ⟨⟨A, c, L, p + 1, s', ?_, hM.oth ho (Nat.le_of_lt hB.lt), hL, hl, by omega, hs.1, hs.2⟩, ho⟩
  have h1 : Blk (w.drewN a) g #[.slice A L.length c, .int .i64 p, .int .u64 s] 74 := hB
  exact (h1.set 1 _).set 2 _

set_option maxRecDepth 100000 in
theorem next_any (g k : Nat) (w : World) (h : Cur w g k) (hk : k ≤ 1000000) : Calls Tryz.prog 76 #[.pointer (some ⟨g, 0, none⟩)] w (Dn g (k + 1) 0 255 w) := by
  obtain ⟨A, c, L, p, s, hB, hM, h255, hl, hp, hs0, hs1⟩ := h
  have c0 := hB.cell 0
  have c1 := hB.cell 1
  have c2 := hB.cell 2
  have f1 := hB.frozen 1
  have f2 := hB.frozen 2
  simp at c0 c1 c2
  by_cases hlt : p < L.length
  · obtain ⟨n, hn⟩ := some_of_lt hlt
    have hn2 := h255 n (List.mem_of_getElem? hn)
    obtain ⟨b, off, rfl, hbg, hc⟩ := id hM (by intro e; have := bytes_at hn; rw [e] at this; simp at this)
    have hcn := hc p _ (bytes_at hn)
    have HB := Lib.hid hB
    have HM := Lib.hid hM
    have HL := Lib.hid h255
    clear hB hM h255 hc hn
    go_enter Tryz.func76, Tryz.ntmps76
    go_wp2
    go_quiet (fail)
    go_wp2
    go_quiet (fail)
    go_wp2
    go_quiet (fail)
    go_wp2
    go_ret
    exact ⟨n, rfl, hn2.1, hn2.2, cur_next HB.out HM.out HL.out hl hp (u64_in _)⟩
  · have HB := Lib.hid hB
    have HM := Lib.hid hM
    have HL := Lib.hid h255
    clear hB hM h255
    go_enter Tryz.func76, Tryz.ntmps76
    go_wp2
    go_quiet (fail)
    go_wp2
    go_quiet (fail)
    go_wp2
    go_ret
    exact ⟨_, rfl, (and255 _).1, (and255 _).2, cur_next HB.out HM.out HL.out hl hp (u64_in _)⟩

set_option maxRecDepth 100000 in
theorem pick_any (g k : Nat) (m : Int) (w : World) (hi : Int) (h : Cur w g k) (hk : k ≤ 900000) (hm : m ≤ 65536) (h0 : 0 ≤ hi) (h1 : m - 1 ≤ hi) : Calls Tryz.prog 52 #[.pointer (some ⟨g, 0, none⟩), .int .i64 m] w (Dn g (k + 2) 0 hi w) := by
  by_cases hm1 : m ≤ 1
  · have HC := Lib.hid h
    clear h
    go_enter Tryz.func52, Tryz.ntmps52
    go_wp2
    go_ret
    exact ⟨0, rfl, by omega, h0, HC.out.mono (by omega), Oth.refl _ _⟩
  · by_cases hm2 : 200 < m
    · go_enter Tryz.func52, Tryz.ntmps52
      go_wp2_with fail
      refine (next_any g k _ h (by omega)).mono ?_
      rintro e w1 ⟨x, rfl, x0, x1, hc1, ho1⟩
      have HO := Lib.hid ho1
      clear ho1 h
      go_wp2_with fail
      refine (next_any g (k + 1) _ hc1 (by omega)).mono ?_
      rintro e w2 ⟨y, rfl, y0, y1, hc2, ho2⟩
      have HO2 := Lib.hid ho2
      have HC := Lib.hid hc2
      clear ho2 hc1 hc2
      go_wp2
      go_ret
      have hr0 : 0 ≤ (x * 256 + y) % m := Int.emod_nonneg _ (by omega)
      have hr1 : (x * 256 + y) % m < m := Int.emod_lt_of_pos _ (by omega)
      exact ⟨_, rfl, hr0, by omega, HC.out, HO.out.trans HO2.out⟩
    · go_enter Tryz.func52, Tryz.ntmps52
      go_wp2_with fail
      refine (next_any g k _ h (by omega)).mono ?_
      rintro e w1 ⟨x, rfl, x0, x1, hc1, ho1⟩
      have HO := Lib.hid ho1
      have HC := Lib.hid hc1
      clear ho1 h hc1
      go_wp2
      go_ret
      have hr0 : 0 ≤ x % m := Int.emod_nonneg _ (by omega)
      have hr1 : x % m < m := Int.emod_lt_of_pos _ (by omega)
      exact ⟨_, rfl, hr0, by omega, HC.out.mono (by omega), HO.out⟩

set_option maxRecDepth 100000 in
theorem one_any (g k : Nat) (m : Int) (w : World) (h : Cur w g k) (hk : k ≤ 900000) (hm : m ≤ 65536) : Calls Tryz.prog 46 #[.pointer (some ⟨g, 0, none⟩), .int .i64 m] w (Db g (k + 2) w) := by
  go_enter Tryz.func46, Tryz.ntmps46
  go_wp2_with fail
  refine (pick_any g k m _ (max 0 (m - 1)) h hk hm (by omega) (by omega)).mono ?_
  rintro e w1 ⟨x, rfl, x0, x1, hc1, ho1⟩
  have HO := Lib.hid ho1
  have HC := Lib.hid hc1
  clear ho1 h hc1 x1
  go_wp2
  go_ret
  exact ⟨_, rfl, HC.out, HO.out⟩

set_option maxRecDepth 100000 in
theorem among_any (g k b n c : Nat) (cs : Array Value) (L : List Int) (lo hi : Int) (w : World) (h : Cur w g k) (hk : k ≤ 900000) (hB : Blk w b cs 3) (hcs : cs = (L.map (Value.int .i64)).toArray) (hn : n = L.length) (hne : b ≠ g) (h0 : 0 < L.length) (h1 : L.length ≤ 65536)
    (hL : ∀ x ∈ L, lo ≤ x ∧ x ≤ hi) : Calls Tryz.prog 71 #[.pointer (some ⟨g, 0, none⟩), .slice (some ⟨b, 0, none⟩) n c] w (Dn g (k + 2) lo hi w) := by
  subst hn
  have HL := Lib.hid hL
  have HB := Lib.hid hB
  have HS := Lib.hid hcs
  clear hL hB hcs
  go_enter Tryz.func71, Tryz.ntmps71
  go_wp2_with fail
  refine (pick_any g k _ _ ((L.length : Int) - 1) h hk (by omega) (by omega) (by omega)).mono ?_
  rintro e w1 ⟨x, rfl, x0, x1, hc1, ho1⟩
  have HO := Lib.hid ho1
  have HC := Lib.hid hc1
  clear ho1 h hc1
  obtain ⟨j, rfl⟩ := Int.eq_ofNat_of_zero_le x0
  have hj : j < L.length := by omega
  obtain ⟨y, hy⟩ := some_of_lt hj
  have hy2 := HL.out y (List.mem_of_getElem? hy)
  have hcell : w1.cell? ⟨b, j, none⟩ = some (.int .i64 y) := by
    rw [(HO.out.blk HB.out hne).cell j, HS.out]
    simp [hy]
  have HY := Lib.hid hy
  clear hy
  go_wp2
  go_ret
  exact ⟨y, rfl, hy2.1, hy2.2, HC.out, HO.out⟩

set_option maxRecDepth 100000 in
theorem spot_any (g k : Nat) (w : World) (h : Cur w g k) (hk : k ≤ 800000) : Calls Tryz.prog 70 #[.pointer (some ⟨g, 0, none⟩)] w (Ds g (k + 12) 0 w) := by
  have hlt := h.lt
  have R0 : Blk (w.alloc (.cells #[.int .i64 0, .int .i64 0] 25)) w.heap.size #[.int .i64 0, .int .i64 0] 25 := Blk.new _ _ _
  have O0 : Oth g w (w.alloc (.cells #[.int .i64 0, .int .i64 0] 25)) := (Oth.refl _ _).alloc _
  have HR := Lib.hid R0
  have HO := Lib.hid O0
  clear R0 O0
  go_enter Tryz.func70, Tryz.ntmps70
  go_wp2_with fail
  refine (pick_any g k _ _ 160 (h.alloc _) (by omega) (by omega) (by omega) (by omega)).mono ?_
  rintro e w1 ⟨x, rfl, x0, x1, hc1, ho1⟩
  have R1 := Lib.hid (ho1.blk HR.out (by omega))
  have O1 := Lib.hid (HO.out.trans ho1)
  clear ho1 h
  go_wp2_with fail
  refine (pick_any g (k + 2) _ _ 1280 hc1 (by omega) (by omega) (by omega) (by omega)).mono ?_
  rintro e w2 ⟨x', rfl, x0', x1', hc2, ho2⟩
  have R2 := Lib.hid (ho2.blk R1.out (by omega))
  have O2 := Lib.hid (O1.out.trans ho2)
  clear ho2 hc1
  have z2 := hc2.lt
  go_wp2_with fail
  refine (among_any g (k + 2 + 2) _ _ _ _ [0, 80, 160, 640, 8 * x, x', 1280] 0 1280 _ (hc2.alloc _) (by omega) (Blk.new _ _ _) rfl rfl (by omega) (by simp) (by simp) (by simp; omega)).mono ?_
  rintro e w3 ⟨X, rfl, X0, X1, hc3, ho3⟩
  have R3 := Lib.hid (ho3.blk (R2.out.alloc _) (by omega))
  have O3 := Lib.hid ((O2.out.alloc _).trans ho3)
  clear ho3 hc2
  go_wp2_with fail
  refine (pick_any g (k + 2 + 2 + 2) _ _ 84 hc3 (by omega) (by omega) (by omega) (by omega)).mono ?_
  rintro e w4 ⟨y, rfl, y0, y1, hc4, ho4⟩
  have R4 := Lib.hid (ho4.blk R3.out (by omega))
  have O4 := Lib.hid (O3.out.trans ho4)
  clear ho4 hc3
  go_wp2_with fail
  refine (pick_any g (k + 2 + 2 + 2 + 2) _ _ 672 hc4 (by omega) (by omega) (by omega) (by omega)).mono ?_
  rintro e w5 ⟨y', rfl, y0', y1', hc5, ho5⟩
  have R5 := Lib.hid (ho5.blk R4.out (by omega))
  have O5 := Lib.hid (O4.out.trans ho5)
  clear ho5 hc4
  have z5 := hc5.lt
  go_wp2_with fail
  refine (among_any g (k + 2 + 2 + 2 + 2 + 2) _ _ _ _ [0, 80, 336, 8 * y, y', 672] 0 672 _ (hc5.alloc _) (by omega) (Blk.new _ _ _) rfl rfl (by omega) (by simp) (by simp) (by simp; omega)).mono ?_
  rintro e w6 ⟨Y, rfl, Y0, Y1, hc6, ho6⟩
  have r6 := ho6.blk (R5.out.alloc _) (by omega)
  have R6 := Lib.hid r6
  have O6 := Lib.hid ((O5.out.alloc _).trans ho6)
  have C6 := Lib.hid hc6
  have f0 := r6.frozen 0
  have f1 := r6.frozen 1
  have e0 := r6.cell 0
  have e1 := r6.cell 1
  simp at e0 e1
  clear ho6 hc5 hc6 r6
  go_wp2
  have ne : w.heap.size ≠ g := by omega
  refine bodyPost_ret (v := .agg #[.int .i64 X, .int .i64 Y]) (by simp [results, Tryz.results70, go_sem, e0, e1]) rfl ⟨X, Y, rfl, by omega, by omega, by omega, by omega, ?_, ?_⟩
  · exact (C6.out.mono (k' := k + 12) (by omega)).put (by omega)
  · exact (O6.out.set (.inr (Nat.le_refl _)) _).set (.inr (Nat.le_refl _)) _
end Go.Proofs.YtdmgffcabjpihaaGreatDoor
