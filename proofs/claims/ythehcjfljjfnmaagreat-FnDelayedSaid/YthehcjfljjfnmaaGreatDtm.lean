/-
  Draws: a matching.
-/
import Derived.Test.YthehcjfljjfnmaaGreatDrx
import Derived.Test.YthehcjfljjfnmaaGreatCh
import Derived.Test.YthehcjfljjfnmaaGreatDmx
import Derived.Deep.RegionHeld3
import Derived.Laws.AppendOwnNone
namespace Go.Proofs.YthehcjfljjfnmaaGreat
open Go.RowKit

theorem ints_one (L : List Int) : ∀ u ∈ ints L, u.oneCell' = true := fun u hu => by
  simp only [ints, List.mem_flatMap, List.mem_singleton] at hu
  obtain ⟨n, _, rfl⟩ := hu
  rfl
theorem Mem.takeI {w : World} {A : Option Addr} {L : List Int} (h : Mem w A (ints L)) (k : Nat) : Mem w A (ints (L.take k)) := Mem.take (f := fun n : Int => [Value.int .i64 n]) h k
theorem ints_map_ (L : List Int) : ints L = L.map (Value.int .i64) := by induction L with | nil => rfl | cons a t ih => simp [ints] at ih ⊢; exact ih
theorem step_append_many {P : Program} (w : World) {ops : Array Oper} {o : Oper} {a : Act} {K : Act → World → Prop} {Q : Exit → Act → World → Prop} {E : Prop} (hgd : o.guard = none) (s x : Operand) (t : TypeId)
    (ho : o.op = .call { callee := .builtin .append, args := #[s, x], argTypes := #[t, t] })
    (base : Nat) (e : TypeId) (i : TypeInfo) (z : Value) (size bytes : Nat) (ht : P.underlying t = some (.slice e)) (hi : P.info? e = some i) (hz : i.zero = some z)
    (hsize : i.size = size) (hby : i.bytes = bytes) (hzs : z.cells.size = size) (hsz : 0 < size)
    (v : Value) (n : Nat) (xs : List Value) (hs : a.eval s = v) (hown : w.ownsRow base e size v n xs)
    (ad : Addr) (m c : Nat) (news : List Value) (hx : a.eval x = .slice (some ad) m c) (hl : news.length = m * size) (hnews : ∀ j u, news[j]? = some u → w.cell? (ad.add j) = some u) (h1 : ∀ u ∈ news, u.oneCell' = true)
    (h63 : n + m ≤ maxLen) (hbytes : (n + m) * bytes ≤ 140737488355328) (hbase : base ≤ w.heap.size)
    (h : ∀ v' w', w'.ownsRow base e size v' (n + m) (xs ++ news) → w.grownBy w' v.ownBlock → (v'.ownBlock = v.ownBlock ∨ v'.ownBlock = some w.heap.size) → K (a.put o.dst v') w') :
    if Region.wanted o (yielded ops a.tmps) = true then Oper.wp P o a w K Q else E := by
  have hw : Region.wanted o (yielded ops a.tmps) = true := by simp [Region.wanted, hgd]
  rw [if_pos hw]
  obtain ⟨v', w', hr, h2, h3, h4, h5⟩ := run_append_own_at (P := P) w base t o.type e i z size bytes ht hi hz hsize hby hzs hsz v n xs hown ad m c news hl hnews h1 h63 hbytes hbase
  unfold Oper.wp execOp
  simp only [ho, resolve, invoke, builtin, Sem.run_bind, Sem.run_pure, Result.andThen_ok, List.map_toArray, List.map_cons, List.map_nil, hs, hx, hr]
  exact h _ _ h2 h3 h5

theorem step_append_none {P : Program} (w : World) {ops : Array Oper} {o : Oper} {a : Act} {K : Act → World → Prop} {Q : Exit → Act → World → Prop} {E : Prop} (hgd : o.guard = none) (s x : Operand) (t : TypeId)
    (ho : o.op = .call { callee := .builtin .append, args := #[s, x], argTypes := #[t, t] })
    (base : Nat) (e : TypeId) (i : TypeInfo) (size : Nat) (ht : P.underlying t = some (.slice e)) (hi : P.info? e = some i)
    (v : Value) (n : Nat) (xs : List Value) (hs : a.eval s = v) (hown : w.ownsRow base e size v n xs) (hx : a.eval x = .slice none 0 0)
    (h : K (a.put o.dst v) w) :
    if Region.wanted o (yielded ops a.tmps) = true then Oper.wp P o a w K Q else E := by
  have hw : Region.wanted o (yielded ops a.tmps) = true := by simp [Region.wanted, hgd]
  rw [if_pos hw]
  have hr := run_append_owned_none (P := P) (w := w) base t o.type e i size ht hi v n xs hown
  unfold Oper.wp execOp
  simp only [ho, resolve, invoke, builtin, Sem.run_bind, Sem.run_pure, Result.andThen_ok, List.map_toArray, List.map_cons, List.map_nil, hs, hx, hr]
  exact h
set_option maxRecDepth 100000 in
theorem l1OwnT_any (b off c k : Nat) (L : List Int) (w : World) (hm : Mem w (some ⟨b, off, none⟩) (ints L)) (hk : k ≤ L.length) (hl : L.length ≤ 1048576) : Calls Tryz.prog 93 #[.slice (some ⟨b, off, none⟩) k c] w fun e w' =>
    ∃ A' c', e = .returned (.slice A' k c') ∧ w'.ownsRow w.heap.size 3 1 (.slice A' k c') k (ints (L.take k)) ∧ Below w.heap.size w w' := by
  obtain ⟨i0, hi, hz0, hz1, hz2⟩ := info_parts info_int
  have hlen : (L.take k).length = k := by rw [List.length_take]; omega
  have hc : ∀ j u, (ints (L.take k))[j]? = some u → w.cell? (Addr.add ⟨b, off, none⟩ j) = some u := fun j u hu => by
    have hne : ints (L.take k) ≠ [] := fun h => by rw [h] at hu; simp at hu
    obtain ⟨b', off', e, h2⟩ := (hm.takeI k) hne
    cases e
    rw [Addr.add_lit]
    exact h2 j u hu
  have hcc : ∀ j u, (ints (L.take k))[j]? = some u → (w.alloc (.cells #[] 3)).cell? (Addr.add ⟨b, off, none⟩ j) = some u := fun j u hu => keep1 ((Below.refl _ _).alloc (Nat.le_refl _) _) (hc j u hu)
  have HC := Lib.hid hcc
  have HL := Lib.hid hlen
  have HO := Lib.hid (show (w.alloc (.cells #[] 3)).ownsRow w.heap.size 3 1 (.slice (some ⟨w.heap.size, 0, none⟩) 0 0) 0 [] from own_empty _ _ rfl (Nat.le_refl _) rfl)
  clear hc hcc hm hlen
  go_enter Tryz.func93, Tryz.ntmps93
  go_wp2_with (at_builtin; refine wpList_append_own_at _ rfl (.tmp 3) (.tmp 4) 32 rfl w.heap.size 3 i0 (.int .i64 0) 1 8 Tryz.underlying32 hi hz0 hz1 hz2 rfl (by omega) _ _ _ rfl HO.out ⟨b, off, none⟩ k c (ints (L.take k)) rfl (by rw [ints_len, HL.out, Nat.mul_one]) HC.out (ints_one _) (by unfold maxLen; omega) (by omega) (by simp) ?_; intro v' w1 ho1 hg1 _ hat)
  go_ret
  rw [Nat.zero_add, List.nil_append] at ho1
  obtain ⟨A', c', rfl⟩ := own_form ho1
  exact ⟨A', c', rfl, ho1, ((Below.refl _ _).alloc (Nat.le_refl _) _).grown hg1 (by simp) (fun k hk => by have h9 : w.heap.size = k := Option.some.inj hk; omega)⟩
set_option maxRecDepth 100000 in
theorem l1OwnN_any (w : World) : Calls Tryz.prog 93 #[.slice none 0 0] w fun e w' =>
    ∃ A' c', e = .returned (.slice A' 0 c') ∧ w'.ownsRow w.heap.size 3 1 (.slice A' 0 c') 0 [] ∧ Below w.heap.size w w' := by
  obtain ⟨i0, hi, hz0, hz1, hz2⟩ := info_parts info_int
  have HO := Lib.hid (show (w.alloc (.cells #[] 3)).ownsRow w.heap.size 3 1 (.slice (some ⟨w.heap.size, 0, none⟩) 0 0) 0 [] from own_empty _ _ rfl (Nat.le_refl _) rfl)
  go_enter Tryz.func93, Tryz.ntmps93
  go_wp2_with (at_builtin; refine wpList_append_own_none rfl (.tmp 3) (.tmp 4) 32 rfl w.heap.size 3 i0 1 Tryz.underlying32 hi _ _ _ rfl HO.out rfl ?_)
  go_ret
  exact ⟨_, _, rfl, HO.out, (Below.refl _ _).alloc (Nat.le_refl _) _⟩
theorem blk1 {w : World} {q : Nat} {v : Value} {t : TypeId} (h : Blk w q #[v] t) : ∀ (j : Nat) (u : Value), [v][j]? = some u → w.cell? (Addr.add ⟨q, 0, none⟩ j) = some u := fun j u hu => by
  have hj : j = 0 := by
    rcases j with _ | j
    · rfl
    · simp at hu
  subst hj
  rw [Addr.add_lit]
  exact (h.cell 0).trans (by simpa using hu)
theorem rest_at' {w : World} {b i cs : Nat} {S : List Int} (hm : Mem w (some ⟨b, 0, none⟩) (ints S)) (hc : S.length ≤ cs) (hi : i ≤ S.length) :
    ∃ ad : Addr, (if cs = i then (some ⟨b, 0, none⟩ : Option Addr) else some ⟨b, i, none⟩) = some ad ∧ ad.block = b ∧ ad.spot = none ∧ ∀ j u, (ints (S.drop i))[j]? = some u → w.cell? (ad.add j) = some u := by
  by_cases h : cs = i
  · refine ⟨⟨b, 0, none⟩, by rw [if_pos h], rfl, rfl, fun j u hu => ?_⟩
    rw [List.drop_eq_nil_of_le (by omega)] at hu
    simp [ints] at hu
  · refine ⟨⟨b, i, none⟩, by rw [if_neg h], rfl, rfl, fun j u hu => ?_⟩
    rw [ints_map_, List.map_drop, List.getElem?_drop, ← ints_map_] at hu
    obtain ⟨b', off', e, h2⟩ := hm (fun e => by rw [e] at hu; simp at hu)
    cases e
    have := h2 _ _ hu
    rw [Addr.add_lit]
    rw [Nat.zero_add] at this
    exact this
theorem memD {w : World} {A : Option Addr} {xs : List Value} {o : Obj} (h : Mem w A xs) : Mem (w.alloc o) A xs := h.below (below_alloc _ _)
theorem memE {w : World} {A : Option Addr} {xs : List Value} (h : Mem w A xs) : Mem w.drew A xs := h
theorem ownD {w : World} {base : Nat} {e : TypeId} {size : Nat} {v : Value} {n : Nat} {xs : List Value} {o : Obj} (h : w.ownsRow base e size v n xs) : (w.alloc o).ownsRow base e size v n xs := own_below h (below_alloc _ _)
theorem growB {B : Nat} {w6 W1 w8 : World} {row : Option Nat} (hg : W1.grownBy w8 row) (hb : Below B w6 W1) (hs : B ≤ w6.heap.size) (hr : ∀ j, row = some j → B ≤ j) : Below B w6 w8 :=
  hb.grown hg (Nat.le_trans hs hb.size) hr
theorem own_capM {w : World} {base : Nat} {e : TypeId} {size : Nat} {A : Option Addr} {n c : Nat} {xs : List Value} (h : w.ownsRow base e size (.slice A n c) n xs) : n ≤ c := by
  rcases h.2 with ⟨e, _⟩ | ⟨k, cap, cur, e, _, _, h5, _⟩
  · cases e; exact Nat.le_refl _
  · cases e; exact h5
def NoS (_ : World) : Prop := 0 = 0
theorem noS (w : World) : NoS w := rfl
/-- A matching is drawn. -/
def Dmt (g k n : Nat) (w : World) (e : Ending) (w' : World) : Prop :=
  ∃ A' c' P, e = .returned (.slice A' P.length c') ∧ P.length = n ∧ w'.ownsRow w.heap.size 3 1 (.slice A' P.length c') P.length (ints P) ∧ Cur w' g k ∧ Oth g w w'

set_option maxHeartbeats 12800000 in
set_option maxRecDepth 100000 in
theorem matching_any (g k n : Nat) (w : World) (h : Cur w g k) (hk : k ≤ 500000) (hn : n ≤ 14) : Calls Tryz.prog 87 #[.pointer (some ⟨g, 0, none⟩), .int .i64 (n : Int)] w (Dmt g (k + 40) n w) := by
  obtain ⟨i0, hi, hz0, hz1, hz2⟩ := info_parts info_int
  have hlt0 := h.lt
  have HC0 := Lib.hid h
  clear h
  go_enter Tryz.func87, Tryz.ntmps87
  go_wp2_with fail
  go_loopw [5, 6, 7] (fun lv kv _ wr => ∃ (j : Nat) (P : List Int), j ≤ n ∧ kv = .int .i64 (j : Int) ∧ P.length = j ∧ (j = 0 → lv = .slice none 0 0) ∧ wr.ownsRow w.heap.size 3 1 lv P.length (ints P) ∧ Cur wr g (k + j * 2) ∧ Oth g w wr) (fun _ kv _ _ => n - (intOf kv).toNat)
  case atStart => exact ⟨0, [], by omega, rfl, rfl, fun _ => rfl, World.ownsRow_nil _ _ _ _, by simpa using HC0.out, Oth.refl _ _⟩
  case round =>
    obtain ⟨j, P, hj, rfl, hP, hnil, hown, hcur, hoth⟩ := hrel
    have HX := Lib.hid hown
    have HOt := Lib.hid hoth
    have HNil := Lib.hid hnil
    clear hown hoth hnil
    by_cases hlt : j < n
    · by_cases hj0 : j = 0
      · subst hj0
        obtain rfl := HNil.out rfl
        obtain rfl : P = [] := List.length_eq_zero_iff.1 hP
        clear HNil HX
        go_wp2_with fail
        refine (pick_any g (k + 0 * 2) 1 _ 0 hcur (by omega) (by omega) (by omega) (by omega)).mono ?_
        rintro e w5 ⟨i, rfl, q0, q1, hc5, ho5⟩
        obtain rfl : i = 0 := by omega
        have O5 := Lib.hid (HOt.out.trans ho5)
        have C5 := Lib.hid hc5
        have z5 : w.heap.size ≤ w5.heap.size := O5.out.size
        have hg5 := hc5.lt
        clear ho5 hc5 hcur HOt
        have CL := Lib.hid (fun w => l1OwnN_any w)
        go_wp2_with fail
        go_region_held3 (fun wx => NoS wx)
          (exact noS _)
          (first
            | ((first | (have hh8 := HO8) | fail); refine step_append_none _ rfl (.tmp 24) (.tmp 27) 32 rfl w5.heap.size 3 i0 1 Tryz.underlying32 hi _ 1 [.int .i64 0] ?_ HO8 ?_ ?_; (focus (first | rfl | (simp [go_sem]; done) | fail)); (focus (first | rfl | (simp [go_sem]; done) | fail)); have hh9 := HO8)
            | ((first | (have hh7 := HO7) | fail); refine step_append_many _ rfl (.tmp 21) (.tmp 23) 32 rfl w5.heap.size 3 i0 (.int .i64 0) 1 8 Tryz.underlying32 hi hz0 hz1 hz2 rfl Nat.one_pos (.slice A7 0 c7) 0 [] ?_ ?_ ⟨w7.heap.size, 0, none⟩ 1 1 [.int .i64 0] ?_ rfl (blk1 (t := 3) ?_) ?_ ?_ ?_ ?_ ?_; (focus (first | rfl | (simp [go_sem]; done) | fail)); (focus ((repeat (first | with_reducible exact HO7 | with_reducible refine own_drew ?_ | with_reducible refine ownD ?_)); done)); (focus (first | rfl | (simp [go_sem]; done) | fail)); (focus (((repeat (first | with_reducible refine Blk.drew ?_ | with_reducible refine HK7 _ _ _ ?_ | (with_reducible refine blkN ?_; (first | (simp; done) | (simp; omega) | rfl)) | with_reducible refine Blk.alloc ?_ _))); done)); (focus (intro u hu; simp at hu; subst hu; rfl)); (focus (unfold maxLen; omega)); (focus omega); (focus (first | omega | (simp; omega))); intro v8 w8 ho8 hg8 hat8; have HO8 : w8.ownsRow w5.heap.size 3 1 v8 1 [.int .i64 0] := ho8; have HB8 : Below w5.heap.size w5 w8 := (by refine growB hg8 ?_ (Nat.le_refl _) ?_; (repeat (first | exact Below.refl _ _ | assumption | (refine Below.alloc ?_ (by first | omega | (simp; done) | (simp; omega)) _) | (refine Below.setCell ?_ (by first | omega | (simp; done) | (simp; omega)) _) | (refine Below.drew ?_) | (refine Below.drewN ?_ _) | (refine Below.next (by assumption) ?_ (by first | omega | (simp; done) | (simp; omega))))); exact fun j hj => (HO7.lt j hj).1))
            | ((first | (have hh7 := HO7) | fail); refine step_append_many _ rfl (.tmp 21) (.tmp 23) 32 rfl w5.heap.size 3 i0 (.int .i64 0) 1 8 Tryz.underlying32 hi hz0 hz1 hz2 rfl Nat.one_pos (.slice A7 0 c7) 0 [] ?_ ?_ ⟨w5.heap.size, 0, none⟩ 1 1 [.int .i64 0] ?_ rfl (blk1 (t := 3) ?_) ?_ ?_ ?_ ?_ ?_; (focus (first | rfl | (simp [go_sem]; done) | fail)); (focus ((repeat (first | with_reducible exact HO7 | with_reducible refine own_drew ?_ | with_reducible refine ownD ?_)); done)); (focus (first | rfl | (simp [go_sem]; done) | fail)); (focus (((repeat (first | with_reducible refine Blk.drew ?_ | with_reducible refine HK7 _ _ _ ?_ | (with_reducible refine blkN ?_; (first | (simp; done) | (simp; omega) | rfl)) | with_reducible refine Blk.alloc ?_ _))); done)); (focus (intro u hu; simp at hu; subst hu; rfl)); (focus (unfold maxLen; omega)); (focus omega); (focus (first | omega | (simp; omega))); intro v8 w8 ho8 hg8 hat8; have HO8 : w8.ownsRow w5.heap.size 3 1 v8 1 [.int .i64 0] := ho8; have HB8 : Below w5.heap.size w5 w8 := (by refine growB hg8 ?_ (Nat.le_refl _) ?_; (repeat (first | exact Below.refl _ _ | assumption | (refine Below.alloc ?_ (by first | omega | (simp; done) | (simp; omega)) _) | (refine Below.setCell ?_ (by first | omega | (simp; done) | (simp; omega)) _) | (refine Below.drew ?_) | (refine Below.drewN ?_ _) | (refine Below.next (by assumption) ?_ (by first | omega | (simp; done) | (simp; omega))))); exact fun j hj => (HO7.lt j hj).1))
            | (go_at_call 93; (first | (refine (CL.out _).mono ?_) | fail); rintro e w7 ⟨A7, c7, rfl, ho7, hq7⟩; have HK7 := (fun (q : Nat) (cs : Array Value) (t : TypeId) (h : Blk _ q cs t) => h.below hq7 h.lt); have hz7 := hq7.size; (try simp at hz7); have HB7 : Below w5.heap.size w5 w7 := (by (repeat (first | exact Below.refl _ _ | assumption | (refine Below.alloc ?_ (by first | omega | (simp; done) | (simp; omega)) _) | (refine Below.setCell ?_ (by first | omega | (simp; done) | (simp; omega)) _) | (refine Below.drew ?_) | (refine Below.drewN ?_ _) | (refine Below.next (by assumption) ?_ (by first | omega | (simp; done) | (simp; omega)))))); have HO7 : w7.ownsRow w5.heap.size 3 1 (.slice A7 0 c7) 0 [] := own_base ho7 (by first | exact Nat.le_refl _ | (simp; omega) | simp)))
        all_goals
          rename_i hHeld
          clear hHeld
          have HO := Lib.hid (own_base HO8 z5)
          have HB := Lib.hid (HB8.mono z5)
          have HCu := Lib.hid (C5.out.below HB8 hg5)
          clear HO8 HB8 hh8 hh9 ho8 hg8 hat8 ho7 hq7 HK7 hz7 HB7 HO7 hh7
          go_wp2
          go_roundw
          case rel => exact ⟨1, [0], by omega, by go_num, rfl, fun h => absurd h (by omega), HO.out, HCu.out.mono (by omega), Oth.of_base HB.out (by omega) O5.out⟩
          case measure => simp [intOf]; omega
      · subst hP
        obtain ⟨A, c, rfl⟩ := own_form HX.out
        have hcap := own_capM HX.out
        obtain ⟨b, rfl, hb1, hb2⟩ := own_addr HX.out (by omega)
        clear HNil
        go_wp2_with fail
        refine (pick_any g (k + P.length * 2) ((P.length : Int) + 1) _ (P.length : Int) hcur (by omega) (by omega) (by omega) (by omega)).mono ?_
        rintro e w5 ⟨i, rfl, q0, q1, hc5, ho5⟩
        obtain ⟨i, rfl⟩ := Int.eq_ofNat_of_zero_le q0
        have hi' : i ≤ P.length := by omega
        have O5 := Lib.hid (HOt.out.trans ho5)
        have C5 := Lib.hid hc5
        have X5 := Lib.hid (ho5.own HX.out hlt0)
        have z5 : w.heap.size ≤ w5.heap.size := O5.out.size
        have hg5 := hc5.lt
        clear ho5 hc5 hcur HOt HX
        have HM := Lib.hid (Mem.of_own X5.out)
        have CL := Lib.hid (fun (w' : World) (hm : Mem w' (some ⟨b, 0, none⟩) (ints P)) => l1OwnT_any b 0 c i P w' hm hi' (by omega))
        have hi1 : (i : Int) ≤ (c : Int) := by omega
        have hi2 : (i : Int) ≤ (P.length : Int) := by omega
        have hi3 : (P.length : Int) ≤ (c : Int) := by omega
        have hi4 : i ≤ c := by omega
        have HLD := Lib.hid (show (ints (P.drop i)).length = (P.length - i) * 1 by rw [ints_len, List.length_drop]; omega)
        have HMX := Lib.hid (show i + 1 + (P.length - i) ≤ maxLen by unfold maxLen; omega)
        have HBY := Lib.hid (show (i + 1 + (P.length - i)) * 8 ≤ 140737488355328 by omega)
        obtain ⟨ad, had, hadb, hads, hcl⟩ := rest_at' HM.out hcap hi'
        by_cases hci : c = i
        · rw [if_pos hci] at had
          have hci' := hci.symm
          subst hci'
          cases had
          clear hadb hads hci
          have HCL := Lib.hid hcl
          clear hcl HLD HMX HBY
          have HLD := Lib.hid (show (ints (P.drop i)).length = 0 * 1 by rw [ints_len, List.length_drop]; omega)
          have HMX := Lib.hid (show i + 1 + 0 ≤ maxLen by unfold maxLen; omega)
          have HBY := Lib.hid (show (i + 1 + 0) * 8 ≤ 140737488355328 by omega)
          go_wp2_with fail
          go_region_held3 (fun wx => NoS wx)
            (exact noS _)
            (first
              | ((first | (have hh8 := HO8) | fail); refine step_append_many _ rfl (.tmp 24) (.tmp 27) 32 rfl w5.heap.size 3 i0 (.int .i64 0) 1 8 Tryz.underlying32 hi hz0 hz1 hz2 rfl Nat.one_pos v8 (i + 1) (ints (P.take i) ++ [.int .i64 (P.length : Int)]) ?_ HO8 ⟨b, 0, none⟩ 0 0 (ints (P.drop i)) ?_ HLD.out (fun j u hu => keep1 HB8 (HCL.out j u hu)) (ints_one _) HMX.out HBY.out HB8.size ?_; (focus (first | rfl | (simp [go_sem]; done) | fail)); (focus (first | rfl | (simp [go_sem]; done) | fail)); intro v9 w9 ho9 hg9 hat9; have HB9 : Below w5.heap.size w5 w9 := (by exact growB hg9 HB8 (Nat.le_refl _) (fun j hj => (HO8.lt j hj).1)))
              | ((first | (have hh7 := HO7) | fail); refine step_append_many _ rfl (.tmp 21) (.tmp 23) 32 rfl w5.heap.size 3 i0 (.int .i64 0) 1 8 Tryz.underlying32 hi hz0 hz1 hz2 rfl Nat.one_pos (.slice A7 i c7) i (ints (P.take i)) ?_ ?_ ⟨w7.heap.size, 0, none⟩ 1 1 [.int .i64 (P.length : Int)] ?_ rfl (blk1 (t := 3) ?_) ?_ ?_ ?_ ?_ ?_; (focus (first | rfl | (simp [go_sem]; done) | fail)); (focus ((repeat (first | with_reducible exact HO7 | with_reducible refine own_drew ?_ | with_reducible refine ownD ?_)); done)); (focus (first | rfl | (simp [go_sem]; done) | fail)); (focus (((repeat (first | with_reducible refine Blk.drew ?_ | with_reducible refine HK7 _ _ _ ?_ | (with_reducible refine blkN ?_; (first | (simp; done) | (simp; omega) | rfl)) | with_reducible refine Blk.alloc ?_ _))); done)); (focus (intro u hu; simp at hu; subst hu; rfl)); (focus (unfold maxLen; omega)); (focus omega); (focus (first | omega | (simp; omega))); intro v8 w8 ho8 hg8 hat8; have HO8 : w8.ownsRow w5.heap.size 3 1 v8 (i + 1) (ints (P.take i) ++ [.int .i64 (P.length : Int)]) := ho8; have HB8 : Below w5.heap.size w5 w8 := (by refine growB hg8 ?_ (Nat.le_refl _) ?_; (repeat (first | exact Below.refl _ _ | assumption | (refine Below.alloc ?_ (by first | omega | (simp; done) | (simp; omega)) _) | (refine Below.setCell ?_ (by first | omega | (simp; done) | (simp; omega)) _) | (refine Below.drew ?_) | (refine Below.drewN ?_ _) | (refine Below.next (by assumption) ?_ (by first | omega | (simp; done) | (simp; omega))))); exact fun j hj => (HO7.lt j hj).1))
              | ((first | (have hh7 := HO7) | fail); refine step_append_many _ rfl (.tmp 21) (.tmp 23) 32 rfl w5.heap.size 3 i0 (.int .i64 0) 1 8 Tryz.underlying32 hi hz0 hz1 hz2 rfl Nat.one_pos (.slice A7 i c7) i (ints (P.take i)) ?_ ?_ ⟨w5.heap.size, 0, none⟩ 1 1 [.int .i64 (P.length : Int)] ?_ rfl (blk1 (t := 3) ?_) ?_ ?_ ?_ ?_ ?_; (focus (first | rfl | (simp [go_sem]; done) | fail)); (focus ((repeat (first | with_reducible exact HO7 | with_reducible refine own_drew ?_ | with_reducible refine ownD ?_)); done)); (focus (first | rfl | (simp [go_sem]; done) | fail)); (focus (((repeat (first | with_reducible refine Blk.drew ?_ | with_reducible refine HK7 _ _ _ ?_ | (with_reducible refine blkN ?_; (first | (simp; done) | (simp; omega) | rfl)) | with_reducible refine Blk.alloc ?_ _))); done)); (focus (intro u hu; simp at hu; subst hu; rfl)); (focus (unfold maxLen; omega)); (focus omega); (focus (first | omega | (simp; omega))); intro v8 w8 ho8 hg8 hat8; have HO8 : w8.ownsRow w5.heap.size 3 1 v8 (i + 1) (ints (P.take i) ++ [.int .i64 (P.length : Int)]) := ho8; have HB8 : Below w5.heap.size w5 w8 := (by refine growB hg8 ?_ (Nat.le_refl _) ?_; (repeat (first | exact Below.refl _ _ | assumption | (refine Below.alloc ?_ (by first | omega | (simp; done) | (simp; omega)) _) | (refine Below.setCell ?_ (by first | omega | (simp; done) | (simp; omega)) _) | (refine Below.drew ?_) | (refine Below.drewN ?_ _) | (refine Below.next (by assumption) ?_ (by first | omega | (simp; done) | (simp; omega))))); exact fun j hj => (HO7.lt j hj).1))
              | (go_at_call 93; (first | (refine (CL.out _ ?_).mono ?_) | fail); (focus (repeat (first | with_reducible exact HM.out | with_reducible refine memD ?_ | with_reducible refine memE ?_))); rintro e w7 ⟨A7, c7, rfl, ho7, hq7⟩; have HK7 := (fun (q : Nat) (cs : Array Value) (t : TypeId) (h : Blk _ q cs t) => h.below hq7 h.lt); have hz7 := hq7.size; (try simp at hz7); have HB7 : Below w5.heap.size w5 w7 := (by (repeat (first | exact Below.refl _ _ | assumption | (refine Below.alloc ?_ (by first | omega | (simp; done) | (simp; omega)) _) | (refine Below.setCell ?_ (by first | omega | (simp; done) | (simp; omega)) _) | (refine Below.drew ?_) | (refine Below.drewN ?_ _) | (refine Below.next (by assumption) ?_ (by first | omega | (simp; done) | (simp; omega)))))); have HO7 : w7.ownsRow w5.heap.size 3 1 (.slice A7 i c7) i (ints (P.take i)) := own_base ho7 (by first | exact Nat.le_refl _ | (simp; omega) | simp)))
          all_goals
            rename_i hHeld
            clear hHeld
            have hn9 : (P.take i ++ (P.length : Int) :: P.drop i).length = i + 1 + 0 := by rw [List.length_append, List.length_cons, List.length_take, List.length_drop]; omega
            have hI9 : ints (P.take i ++ (P.length : Int) :: P.drop i) = ints (P.take i) ++ [.int .i64 (P.length : Int)] ++ ints (P.drop i) := by rw [ints_map_, ints_map_, ints_map_, List.map_append, List.map_cons]; simp
            rw [← hI9, ← hn9] at ho9
            have HO := Lib.hid (own_base ho9 z5)
            have HB := Lib.hid (HB9.mono z5)
            have HCu := Lib.hid (C5.out.below HB9 hg5)
            have HN := Lib.hid (show (P.take i ++ (P.length : Int) :: P.drop i).length = P.length + 1 by rw [hn9]; omega)
            clear HO8 HB8 hh8 ho8 hg8 hat8 ho9 hg9 hat9 HB9 ho7 hq7 HK7 hz7 HB7 HO7 hh7 hn9 hI9 CL HCL HM X5 HLD HMX HBY
            go_wp2
            go_roundw
            case rel => exact ⟨P.length + 1, P.take i ++ (P.length : Int) :: P.drop i, by omega, by go_num, HN.out, fun h => absurd h (by omega), HO.out, HCu.out.mono (by omega), Oth.of_base HB.out (by omega) O5.out⟩
            case measure => simp [intOf]; omega
        · rw [if_neg hci] at had
          cases had
          clear hadb hads
          have HCL := Lib.hid hcl
          clear hcl
          go_wp2_with fail
          go_region_held3 (fun wx => NoS wx)
            (exact noS _)
            (first
              | ((first | (have hh8 := HO8) | fail); refine step_append_many _ rfl (.tmp 24) (.tmp 27) 32 rfl w5.heap.size 3 i0 (.int .i64 0) 1 8 Tryz.underlying32 hi hz0 hz1 hz2 rfl Nat.one_pos v8 (i + 1) (ints (P.take i) ++ [.int .i64 (P.length : Int)]) ?_ HO8 ⟨b, i, none⟩ (P.length - i) (c - i) (ints (P.drop i)) ?_ HLD.out (fun j u hu => keep1 HB8 (HCL.out j u hu)) (ints_one _) HMX.out HBY.out HB8.size ?_; (focus (first | rfl | (simp [go_sem]; done) | fail)); (focus (first | rfl | (simp [go_sem]; done) | fail)); intro v9 w9 ho9 hg9 hat9; have HB9 : Below w5.heap.size w5 w9 := (by exact growB hg9 HB8 (Nat.le_refl _) (fun j hj => (HO8.lt j hj).1)))
              | ((first | (have hh7 := HO7) | fail); refine step_append_many _ rfl (.tmp 21) (.tmp 23) 32 rfl w5.heap.size 3 i0 (.int .i64 0) 1 8 Tryz.underlying32 hi hz0 hz1 hz2 rfl Nat.one_pos (.slice A7 i c7) i (ints (P.take i)) ?_ ?_ ⟨w7.heap.size, 0, none⟩ 1 1 [.int .i64 (P.length : Int)] ?_ rfl (blk1 (t := 3) ?_) ?_ ?_ ?_ ?_ ?_; (focus (first | rfl | (simp [go_sem]; done) | fail)); (focus ((repeat (first | with_reducible exact HO7 | with_reducible refine own_drew ?_ | with_reducible refine ownD ?_)); done)); (focus (first | rfl | (simp [go_sem]; done) | fail)); (focus (((repeat (first | with_reducible refine Blk.drew ?_ | with_reducible refine HK7 _ _ _ ?_ | (with_reducible refine blkN ?_; (first | (simp; done) | (simp; omega) | rfl)) | with_reducible refine Blk.alloc ?_ _))); done)); (focus (intro u hu; simp at hu; subst hu; rfl)); (focus (unfold maxLen; omega)); (focus omega); (focus (first | omega | (simp; omega))); intro v8 w8 ho8 hg8 hat8; have HO8 : w8.ownsRow w5.heap.size 3 1 v8 (i + 1) (ints (P.take i) ++ [.int .i64 (P.length : Int)]) := ho8; have HB8 : Below w5.heap.size w5 w8 := (by refine growB hg8 ?_ (Nat.le_refl _) ?_; (repeat (first | exact Below.refl _ _ | assumption | (refine Below.alloc ?_ (by first | omega | (simp; done) | (simp; omega)) _) | (refine Below.setCell ?_ (by first | omega | (simp; done) | (simp; omega)) _) | (refine Below.drew ?_) | (refine Below.drewN ?_ _) | (refine Below.next (by assumption) ?_ (by first | omega | (simp; done) | (simp; omega))))); exact fun j hj => (HO7.lt j hj).1))
              | ((first | (have hh7 := HO7) | fail); refine step_append_many _ rfl (.tmp 21) (.tmp 23) 32 rfl w5.heap.size 3 i0 (.int .i64 0) 1 8 Tryz.underlying32 hi hz0 hz1 hz2 rfl Nat.one_pos (.slice A7 i c7) i (ints (P.take i)) ?_ ?_ ⟨w5.heap.size, 0, none⟩ 1 1 [.int .i64 (P.length : Int)] ?_ rfl (blk1 (t := 3) ?_) ?_ ?_ ?_ ?_ ?_; (focus (first | rfl | (simp [go_sem]; done) | fail)); (focus ((repeat (first | with_reducible exact HO7 | with_reducible refine own_drew ?_ | with_reducible refine ownD ?_)); done)); (focus (first | rfl | (simp [go_sem]; done) | fail)); (focus (((repeat (first | with_reducible refine Blk.drew ?_ | with_reducible refine HK7 _ _ _ ?_ | (with_reducible refine blkN ?_; (first | (simp; done) | (simp; omega) | rfl)) | with_reducible refine Blk.alloc ?_ _))); done)); (focus (intro u hu; simp at hu; subst hu; rfl)); (focus (unfold maxLen; omega)); (focus omega); (focus (first | omega | (simp; omega))); intro v8 w8 ho8 hg8 hat8; have HO8 : w8.ownsRow w5.heap.size 3 1 v8 (i + 1) (ints (P.take i) ++ [.int .i64 (P.length : Int)]) := ho8; have HB8 : Below w5.heap.size w5 w8 := (by refine growB hg8 ?_ (Nat.le_refl _) ?_; (repeat (first | exact Below.refl _ _ | assumption | (refine Below.alloc ?_ (by first | omega | (simp; done) | (simp; omega)) _) | (refine Below.setCell ?_ (by first | omega | (simp; done) | (simp; omega)) _) | (refine Below.drew ?_) | (refine Below.drewN ?_ _) | (refine Below.next (by assumption) ?_ (by first | omega | (simp; done) | (simp; omega))))); exact fun j hj => (HO7.lt j hj).1))
              | (go_at_call 93; (first | (refine (CL.out _ ?_).mono ?_) | fail); (focus (repeat (first | with_reducible exact HM.out | with_reducible refine memD ?_ | with_reducible refine memE ?_))); rintro e w7 ⟨A7, c7, rfl, ho7, hq7⟩; have HK7 := (fun (q : Nat) (cs : Array Value) (t : TypeId) (h : Blk _ q cs t) => h.below hq7 h.lt); have hz7 := hq7.size; (try simp at hz7); have HB7 : Below w5.heap.size w5 w7 := (by (repeat (first | exact Below.refl _ _ | assumption | (refine Below.alloc ?_ (by first | omega | (simp; done) | (simp; omega)) _) | (refine Below.setCell ?_ (by first | omega | (simp; done) | (simp; omega)) _) | (refine Below.drew ?_) | (refine Below.drewN ?_ _) | (refine Below.next (by assumption) ?_ (by first | omega | (simp; done) | (simp; omega)))))); have HO7 : w7.ownsRow w5.heap.size 3 1 (.slice A7 i c7) i (ints (P.take i)) := own_base ho7 (by first | exact Nat.le_refl _ | (simp; omega) | simp)))
          all_goals
            rename_i hHeld
            clear hHeld
            have hn9 : (P.take i ++ (P.length : Int) :: P.drop i).length = i + 1 + (P.length - i) := by rw [List.length_append, List.length_cons, List.length_take, List.length_drop]; omega
            have hI9 : ints (P.take i ++ (P.length : Int) :: P.drop i) = ints (P.take i) ++ [.int .i64 (P.length : Int)] ++ ints (P.drop i) := by rw [ints_map_, ints_map_, ints_map_, List.map_append, List.map_cons]; simp
            rw [← hI9, ← hn9] at ho9
            have HO := Lib.hid (own_base ho9 z5)
            have HB := Lib.hid (HB9.mono z5)
            have HCu := Lib.hid (C5.out.below HB9 hg5)
            have HN := Lib.hid (show (P.take i ++ (P.length : Int) :: P.drop i).length = P.length + 1 by rw [hn9]; omega)
            clear HO8 HB8 hh8 ho8 hg8 hat8 ho9 hg9 hat9 HB9 ho7 hq7 HK7 hz7 HB7 HO7 hh7 hn9 hI9 CL HCL HM X5 HLD HMX HBY
            go_wp2
            go_roundw
            case rel => exact ⟨P.length + 1, P.take i ++ (P.length : Int) :: P.drop i, by omega, by go_num, HN.out, fun h => absurd h (by omega), HO.out, HCu.out.mono (by omega), Oth.of_base HB.out (by omega) O5.out⟩
            case measure => simp [intOf]; omega
    · obtain rfl : j = n := by omega
      by_cases hn0 : j = 0
      · subst hn0
        obtain rfl := HNil.out rfl
        go_wp2_with fail
        go_ret
        exact ⟨none, 0, [], rfl, rfl, World.ownsRow_nil _ _ _ _, hcur.mono (by omega), HOt.out⟩
      · subst hP
        obtain ⟨A, c, rfl⟩ := own_form HX.out
        obtain ⟨b, rfl, hb1, hb2⟩ := own_addr HX.out (by omega)
        clear HNil
        have hd : (0 : Int) < (P.length : Int) := by omega
        go_wp2_with fail
        refine (one_any g (k + P.length * 2) 16 _ hcur (by omega) (by omega)).mono ?_
        rintro e w5 ⟨b5, rfl, hc5, ho5⟩
        have O5 := Lib.hid (HOt.out.trans ho5)
        have X5 := Lib.hid (ho5.own HX.out hlt0)
        have C5 := Lib.hid hc5
        clear ho5 hc5 hcur HOt HX
        cases b5
        · go_wp2_with fail
          go_ret
          exact ⟨_, c, P, rfl, rfl, X5.out, C5.out.mono (by omega), O5.out⟩
        · go_wp2_with fail
          refine (pick_any g (k + P.length * 2 + 2) (P.length : Int) _ ((P.length : Int) - 1) C5.out (by omega) (by omega) (by omega) (by omega)).mono ?_
          rintro e w6 ⟨q, rfl, q0, q1, hc6, ho6⟩
          obtain ⟨q, rfl⟩ := Int.eq_ofNat_of_zero_le q0
          have O6 := Lib.hid (O5.out.trans ho6)
          have X6 := Lib.hid (ho6.own X5.out hlt0)
          have C6 := Lib.hid hc6
          have hg6 := hc6.lt
          clear ho6 hc6 O5 X5 C5
          go_wp2_with fail
          refine (among_any g (k + P.length * 2 + 4) _ 4 _ _ [-1, 0, (P.length : Int) - 1, (P.length : Int)] (-1) 20 _ (C6.out.alloc _) (by omega) (Blk.new _ _ _) rfl rfl (by omega) (by simp) (by simp) (by simp; omega)).mono ?_
          rintro e w7 ⟨x, rfl, x0, x1, hc7, ho7⟩
          have O7 := Lib.hid ((O6.out.alloc _).trans ho7)
          have X7 := Lib.hid (ho7.own (ownD X6.out) hlt0)
          have C7 := Lib.hid hc7
          clear ho7 hc7 O6 X6 C6
          have hq : q < P.length := by omega
          have hq2 : (q : Int) < (P.length : Int) := by omega
          have fz := X7.out.frozenAt q
          obtain ⟨t0, ht0⟩ := some_of_lt hq
          obtain ⟨_, _, eq1, hcx⟩ := Mem.int (Mem.of_own X7.out) ht0
          cases eq1
          rw [Nat.zero_add] at hcx
          clear ht0
          go_wp2_with fail
          go_ret
          have st1 := (X7.out.stored q (.int .i64 x)).1
          rw [← ints_set P q x] at st1
          refine ⟨some ⟨b, 0, none⟩, c, P.set q x, by rw [List.length_set]; rfl, by rw [List.length_set], ?_, ?_, ?_⟩
          · rw [List.length_set]; exact st1
          · exact (C7.out.put1 (by show g < b; omega)).mono (by omega)
          · exact O7.out.set (.inr hb1) _

end Go.Proofs.YthehcjfljjfnmaaGreat
