/-
  What ChartsOf answers, in plain mathematics; charts and counts that a call puts together in memory.
-/
import Derived.Test.YtbgbcajcajaocaaSg
import Derived.Test.YtbgbcajcajaocaaSof
namespace Go.Proofs.Ytbgbcajcajaocaa
open Go.RowKit Go.Sort

/-- A test of each element by its index, of the first k. -/
def allI {α : Type} (f : Nat → α → Bool) (S : List α) : Nat → Bool
  | 0 => true
  | k + 1 => allI f S k && (match S[k]? with | some a => f k a | none => true)
theorem allI_yes {α : Type} {f : Nat → α → Bool} {S : List α} {k : Nat} {a : α} (h : allI f S k = true) (ha : S[k]? = some a) (hf : f k a = true) : allI f S (k + 1) = true := by simp [allI, h, ha, hf]
theorem allI_mono {α : Type} {f : Nat → α → Bool} {S : List α} {k : Nat} (h : allI f S k = false) : ∀ n, k ≤ n → allI f S n = false
  | 0, hn => by obtain rfl : k = 0 := by omega
                exact h
  | n + 1, hn => by
    by_cases e : k = n + 1
    · subst e; exact h
    · rw [allI, allI_mono h n (by omega)]; rfl
theorem allI_no {α : Type} {f : Nat → α → Bool} {S : List α} {k : Nat} {a : α} (ha : S[k]? = some a) (hf : f k a = false) {n : Nat} (hn : k < n) : allI f S n = false :=
  allI_mono (k := k + 1) (by simp [allI, ha, hf]) n hn
theorem allI_at {α : Type} {f : Nat → α → Bool} {S : List α} {a : α} : ∀ {n k : Nat}, allI f S n = true → k < n → S[k]? = some a → f k a = true
  | n + 1, k, h, hk, ha => by
    rw [allI, Bool.and_eq_true] at h
    by_cases e : k = n
    · subst e; have := h.2; rwa [ha] at this
    · exact allI_at h.1 (by omega) ha

abbrev Sh := Int × Sp × List Rw
def rz : Rw := ⟨0, ⟨0, 0⟩⟩
def rows0 (S : List Sh) : List Rw := (S.getD 0 (0, ⟨0, 0⟩, [])).2.2
theorem rows0_at {S : List Sh} {a : Sh} (h : S[0]? = some a) : rows0 S = a.2.2 := by simp [rows0, List.getD, h]
/-- The counts of the first k rows are those of R. -/
def cnTo (R L : List Rw) : Nat → Bool
  | 0 => true
  | k + 1 => cnTo R L k && decide ((L.getD k rz).c = (R.getD k rz).c)
theorem cnTo_yes {R L : List Rw} {k : Nat} {r s : Rw} (h : cnTo R L k = true) (hr : R[k]? = some r) (hs : L[k]? = some s) (e : s.c = r.c) : cnTo R L (k + 1) = true := by simp [cnTo, h, List.getD, hr, hs, e]
theorem cnTo_no {R L : List Rw} {k : Nat} {r s : Rw} (hr : R[k]? = some r) (hs : L[k]? = some s) (e : s.c ≠ r.c) : ∀ n, k < n → cnTo R L n = false
  | n + 1, hn => by
    by_cases e2 : k = n
    · subst e2; simp [cnTo, List.getD, hr, hs, e]
    · rw [cnTo, cnTo_no hr hs e n (by omega)]; rfl
theorem cnTo_all {R L : List Rw} : ∀ n, (∀ k, k < n → (L.getD k rz).c = (R.getD k rz).c) → cnTo R L n = true
  | 0, _ => rfl
  | n + 1, h => by
    rw [cnTo, cnTo_all n (fun k hk => h k (by omega)), h n (by omega)]
    simp
def sOne (R : List Rw) (i : Nat) (a : Sh) : Bool := (shOk a.1 a.2.1 a.2.2 && decide (a.1 = (i : Int))) && decide (a.2.2.length = R.length)
def sBoth (R : List Rw) (i : Nat) (a : Sh) : Bool := sOne R i a && cnTo R a.2.2 R.length
/-- Sheets of all performers with the same counts. -/
def alOk (S : List Sh) : Bool := inR S.length 1 12 && allI (sBoth (rows0 S)) S S.length
theorem alOk_iff {S : List Sh} : alOk S = true ↔ (1 ≤ S.length ∧ S.length ≤ 12) ∧ allI (sBoth (rows0 S)) S S.length = true := by
  rw [alOk, Bool.and_eq_true, inR_iff]
  constructor
  · rintro ⟨h1, h2⟩; exact ⟨by omega, h2⟩
  · rintro ⟨h1, h2⟩; exact ⟨by omega, h2⟩
theorem al_sheet {S : List Sh} (h : alOk S = true) {k : Nat} {a : Sh} (ha : S[k]? = some a) : shOk a.1 a.2.1 a.2.2 = true ∧ a.2.2.length = (rows0 S).length ∧ cnTo (rows0 S) a.2.2 (rows0 S).length = true := by
  have h1 := allI_at (alOk_iff.1 h).2 (List.getElem?_eq_some_iff.1 ha).1 ha
  rw [sBoth, sOne, Bool.and_eq_true, Bool.and_eq_true, Bool.and_eq_true, decide_eq_true_eq, decide_eq_true_eq] at h1
  exact ⟨h1.1.1.1, h1.1.2, h1.2⟩
theorem al_rows {S : List Sh} (h : alOk S = true) : (rows0 S).length ≤ 8 := by
  obtain ⟨a, ha⟩ := some_of_lt (L := S) (k := 0) (by have := (alOk_iff.1 h).1; omega)
  have h1 := al_sheet h ha
  have h2 := (shOk_iff.1 h1.1).2.2.1
  omega
/-- The chart behind the first m sheets' k-th rows. -/
def colTo (S : List Sh) (k m : Nat) : List Sp := (S.take m).map fun a => (a.2.2.getD k rz).t
def staTo (S : List Sh) (m : Nat) : List Sp := (S.take m).map fun a => a.2.1
theorem col_len {S : List Sh} {k m : Nat} (h : m ≤ S.length) : (colTo S k m).length = m := by simp [colTo]; omega
theorem sta_len {S : List Sh} {m : Nat} (h : m ≤ S.length) : (staTo S m).length = m := by simp [staTo]; omega
theorem col_succ {S : List Sh} {k m : Nat} {a : Sh} {r : Rw} (ha : S[m]? = some a) (hr : a.2.2[k]? = some r) : colTo S k (m + 1) = colTo S k m ++ [r.t] := by
  simp [colTo, List.take_add_one, ha, List.getD, hr]
theorem sta_succ {S : List Sh} {m : Nat} {a : Sh} (ha : S[m]? = some a) : staTo S (m + 1) = staTo S m ++ [a.2.1] := by simp [staTo, List.take_add_one, ha]
/-- The charts and the counts. -/
def coG (S : List Sh) : List (List Sp) := staTo S S.length :: (List.range (rows0 S).length).map fun k => colTo S k S.length
def coC (S : List Sh) : List Int := (rows0 S).map Rw.c
theorem coG_len (S : List Sh) : (coG S).length = (rows0 S).length + 1 := by simp [coG]
theorem coC_len (S : List Sh) : (coC S).length = (rows0 S).length := by simp [coC]
def coOk (S : List Sh) : Bool := alOk S && acOk (coG S) (coC S)
def coGV (S : List Sh) : List (List Sp) := if coOk S then coG S else []
def coCV (S : List Sh) : List Int := if coOk S then coC S else []

/-- Charts (value vo, headers hs) and counts (value vi) that the call puts together: all rows apart. -/
structure CI (w : World) (base : Nat) (vo : Value) (n : Nat) (hs : List (Hdr Sp)) (vi : Value) (C : List Int) : Prop where
  len : hs.length = n
  own : w.ownsRow base 59 1 vo n (hcs hs)
  row : ∀ (k : Nat) (h : Hdr Sp), hs[k]? = some h → w.ownsRow base 26 2 (.slice h.A h.L.length h.c) h.L.length (spots h.L) ∧ ∀ b, (hv h).ownBlock = some b → vo.ownBlock ≠ some b ∧ vi.ownBlock ≠ some b
  apart : ∀ (i j : Nat) (h h' : Hdr Sp), i ≠ j → hs[i]? = some h → hs[j]? = some h' → ∀ b, (hv h).ownBlock = some b → (hv h').ownBlock ≠ some b
  ints_ : w.ownsRow base 3 1 vi C.length (ints C)
  ne : ∀ b, vi.ownBlock = some b → vo.ownBlock ≠ some b
section
variable {w w' w1 : World} {base : Nat} {vo vi : Value} {n : Nat} {hs : List (Hdr Sp)} {C : List Int}
theorem CI.same (h : CI w base vo n hs vi C) (hb : ∀ b, base ≤ b → b < w.heap.size → w'.heap[b]? = w.heap[b]?) : CI w' base vo n hs vi C :=
  ⟨h.len, own_same h.own (fun g hg => hb g (h.own.lt g hg).1 (h.own.lt g hg).2), fun k x hx => ⟨own_same (h.row k x hx).1 (fun g hg => hb g ((h.row k x hx).1.lt g hg).1 ((h.row k x hx).1.lt g hg).2), (h.row k x hx).2⟩, h.apart, own_same h.ints_ (fun g hg => hb g (h.ints_.lt g hg).1 (h.ints_.lt g hg).2), h.ne⟩
theorem CI.below (h : CI w base vo n hs vi C) (hb : Below w.heap.size w w') : CI w' base vo n hs vi C := h.same (fun b _ hbh => hb.block b hbh)
/-- One spot more on row k; its header is stored anew. -/
theorem CI.grow {go c k c' : Nat} {A' : Option Addr} {h : Hdr Sp} {s : Sp} (hc : CI w base (.slice (some ⟨go, 0, none⟩) n c) n hs vi C) (hk : hs[k]? = some h)
    (ho : w1.ownsRow base 26 2 (.slice A' (h.L.length + 1) c') (h.L.length + 1) (spots h.L ++ [.int .i64 s.x, .int .i64 s.y]))
    (hkeep : ∀ j, j < w.heap.size → (hv h).ownBlock ≠ some j → w1.heap[j]? = w.heap[j]? ∧ (Value.slice A' (h.L.length + 1) c').ownBlock ≠ some j) :
    CI (w1.setCell ⟨go, k, none⟩ (.slice A' (h.L.length + 1) c')) base (.slice (some ⟨go, 0, none⟩) n c) n (hs.set k ⟨A', c', h.L ++ [s]⟩) vi C := by
  have hgo : go < w.heap.size := (hc.own.lt go rfl).2
  have hh := hc.row k h hk
  have hgk := hkeep go hgo (fun e => (hh.2 go e).1 rfl)
  have hlen : (h.L ++ [s]).length = h.L.length + 1 := by simp
  -- another row, or the counts: not the grown one's block, not the outer one
  have hoth : ∀ {e : TypeId} {sz m : Nat} {v : Value} {xs : List Value}, w.ownsRow base e sz v m xs → (∀ b, v.ownBlock = some b → (hv h).ownBlock ≠ some b ∧ b ≠ go) → (w1.setCell ⟨go, k, none⟩ (.slice A' (h.L.length + 1) c')).ownsRow base e sz v m xs := fun ho2 hne =>
    own_same ho2 (fun g hg => (heap_setCell_other _ _ _ _ (hne g hg).2).trans (hkeep g (ho2.lt g hg).2 (hne g hg).1).1)
  refine ⟨by rw [List.length_set, hc.len], ?_, fun j x hx => ?_, fun i j x y hij hi hj b hb => ?_, ?_, hc.ne⟩
  · rw [hcs_set]
    have h1 : w1.ownsRow base 59 1 (.slice (some ⟨go, 0, none⟩) n c) n (hcs hs) := own_same hc.own (fun g hg => by have e : go = g := Option.some.inj hg; subst e; exact hgk.1)
    have h2 := (h1.stored k (.slice A' (h.L ++ [s]).length c')).1
    rw [hlen] at h2 ⊢
    exact h2
  · by_cases hj : j = k
    · subst hj
      rw [List.getElem?_set_self (List.getElem?_eq_some_iff.1 hk).1] at hx
      obtain rfl := Option.some.inj hx
      refine ⟨?_, fun b hb => ?_⟩
      · show (w1.setCell _ _).ownsRow base _ 2 (.slice A' (h.L ++ [s]).length c') (h.L ++ [s]).length (spots (h.L ++ [s]))
        rw [hlen, spots_snoc]
        exact ownsRow_setCell_other ho hgk.2 _
      · have hb' : (Value.slice A' (h.L.length + 1) c').ownBlock = some b := by
          have : (hv ⟨A', c', h.L ++ [s]⟩).ownBlock = (Value.slice A' (h.L.length + 1) c').ownBlock := by simp [hv, Value.ownBlock]
          rw [← this]; exact hb
        refine ⟨fun e => hgk.2 (by rw [hb']; exact e.symm ▸ rfl), fun e => ?_⟩
        have hi := hc.ints_.lt b e
        exact (hkeep b hi.2 (fun e2 => (hh.2 b e2).2 e)).2 hb'
    · rw [List.getElem?_set_ne (fun e => hj e.symm)] at hx
      have h3 := hc.row j x hx
      refine ⟨hoth h3.1 (fun b hb => ⟨fun e => hc.apart k j h x (fun e => hj e.symm) hk hx b e hb, fun e => (h3.2 b hb).1 (by subst e; rfl)⟩), h3.2⟩
  · have hnew : ∀ {j : Nat} {x : Hdr Sp} {b : Nat}, j ≠ k → hs[j]? = some x → (hv x).ownBlock = some b → (hv ⟨A', c', h.L ++ [s]⟩).ownBlock ≠ some b := fun hj hx hb e => by
      have h3 := (hc.row _ _ hx).1.lt _ hb
      have h4 := (hkeep _ h3.2 (fun e2 => hc.apart _ _ _ _ (fun e => hj e.symm) hk hx _ e2 hb)).2
      exact h4 (by have : (hv ⟨A', c', h.L ++ [s]⟩).ownBlock = (Value.slice A' (h.L.length + 1) c').ownBlock := by simp [hv, Value.ownBlock]
                   rw [← this]; exact e)
    by_cases h1 : i = k
    · subst h1
      rw [List.getElem?_set_self (List.getElem?_eq_some_iff.1 hk).1] at hi
      obtain rfl := Option.some.inj hi
      rw [List.getElem?_set_ne hij] at hj
      exact fun e => hnew (fun e => hij e.symm) hj e hb
    · rw [List.getElem?_set_ne (fun e => h1 e.symm)] at hi
      by_cases h2 : j = k
      · subst h2
        rw [List.getElem?_set_self (List.getElem?_eq_some_iff.1 hk).1] at hj
        obtain rfl := Option.some.inj hj
        exact hnew h1 hi hb
      · rw [List.getElem?_set_ne (fun e => h2 e.symm)] at hj
        exact hc.apart i j x y hij hi hj b hb
  · exact hoth hc.ints_ (fun b hb => ⟨fun e => (hh.2 b e).2 hb, fun e => hc.ne b hb (by subst e; rfl)⟩)
/-- One count more. -/
theorem CI.count {v' : Value} {x : Int} (hc : CI w base vo n hs vi C) (ho : w1.ownsRow base 3 1 v' (C.length + 1) (ints C ++ [.int .i64 x]))
    (hkeep : ∀ j, j < w.heap.size → vi.ownBlock ≠ some j → w1.heap[j]? = w.heap[j]? ∧ v'.ownBlock ≠ some j) : CI w1 base vo n hs v' (C ++ [x]) := by
  refine ⟨hc.len, own_same hc.own (fun g hg => (hkeep g (hc.own.lt g hg).2 (fun e => hc.ne g e hg)).1), fun k y hy => ?_, hc.apart, ?_, fun b hb e => ?_⟩
  · have h3 := hc.row k y hy
    exact ⟨own_same h3.1 (fun g hg => (hkeep g (h3.1.lt g hg).2 (h3.2 g hg).2).1), fun b hb => ⟨(h3.2 b hb).1, (hkeep b (h3.1.lt b hb).2 (h3.2 b hb).2).2⟩⟩
  · rw [List.length_append, ints_snoc]; exact ho
  · have h4 := hc.own.lt b e
    exact (hkeep b h4.2 (fun e2 => hc.ne b e2 e)).2 hb
/-- One chart more. -/
theorem CI.chart {v' : Value} {x : Hdr Sp} (hc : CI w base vo n hs vi C) (hx : w.ownsRow base 26 2 (.slice x.A x.L.length x.c) x.L.length (spots x.L)) (hxo : ∀ b, (hv x).ownBlock = some b → vo.ownBlock ≠ some b ∧ vi.ownBlock ≠ some b ∧ ∀ (k : Nat) (h : Hdr Sp), hs[k]? = some h → (hv h).ownBlock ≠ some b)
    (ho : w1.ownsRow base 59 1 v' (n + 1) (hcs hs ++ [.slice x.A x.L.length x.c]))
    (hkeep : ∀ j, j < w.heap.size → vo.ownBlock ≠ some j → w1.heap[j]? = w.heap[j]? ∧ v'.ownBlock ≠ some j) : CI w1 base v' (n + 1) (hs ++ [x]) vi C := by
  refine ⟨by rw [List.length_append, hc.len]; rfl, by rw [hcs_snoc]; exact ho, fun k y hy => ?_, fun i j y z hij hi hj b hb => ?_, own_same hc.ints_ (fun g hg => (hkeep g (hc.ints_.lt g hg).2 (hc.ne g hg)).1), fun b hb => (hkeep b (hc.ints_.lt b hb).2 (hc.ne b hb)).2⟩
  · rcases get_snoc hy with hy | ⟨_, rfl⟩
    · have h3 := hc.row k y hy
      exact ⟨own_same h3.1 (fun g hg => (hkeep g (h3.1.lt g hg).2 (h3.2 g hg).1).1), fun b hb => ⟨(hkeep b (h3.1.lt b hb).2 (h3.2 b hb).1).2, (h3.2 b hb).2⟩⟩
    · exact ⟨own_same hx (fun g hg => (hkeep g (hx.lt g hg).2 (hxo g hg).1).1), fun b hb => ⟨(hkeep b (hx.lt b hb).2 (hxo b hb).1).2, (hxo b hb).2.1⟩⟩
  · rcases get_snoc hi with g1 | ⟨g1, g3⟩ <;> rcases get_snoc hj with g2 | ⟨g2, g4⟩
    · exact hc.apart i j y z hij g1 g2 b hb
    · subst g4
      exact fun e => (hxo b e).2.2 i y g1 hb
    · subst g3
      exact (hxo b hb).2.2 j z g2
    · omega
theorem CI.grid {A : Option Addr} {c : Nat} (h : CI w base (.slice A n c) n hs vi C) : Grid w A hs := ⟨Mem.of_own h.own, fun k x hx => Mem.of_own (h.row k x hx).1⟩
theorem CI.cap (h : CI w base vo n hs vi C) {k : Nat} {x : Hdr Sp} (hx : hs[k]? = some x) : x.L.length ≤ x.c := own_capG (h.row k x hx).1
end
end Go.Proofs.Ytbgbcajcajaocaa
