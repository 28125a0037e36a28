/-
  The program's first least cover: its table's rows in memory; what its rows pick.
-/
import Derived.Test.YthppancpecjegaaAcm
import Derived.Test.YthppancpecjegaaQtl
namespace Go.Proofs.Ythppancpecjegaa
open Go.RowKit
open Go.Sort (grow)

/-- A row of the table while it is filled: the sets below t are done. -/
def bTo (c : Nat → Nat → Int) (q m r t P : Nat) : List Int := (List.range P).map fun x => if x < t then bst c q m r x else 0
theorem bTo_len (c : Nat → Nat → Int) (q m r t P : Nat) : (bTo c q m r t P).length = P := by simp [bTo]
theorem bTo_zero {c : Nat → Nat → Int} {q m r P : Nat} : bTo c q m r 0 P = zeros P := by
  apply List.ext_getElem?
  intro k
  by_cases hk : k < P
  · simp [bTo, zeros, hk]
  · rw [List.getElem?_eq_none (by simp [bTo]; omega), List.getElem?_eq_none (by simp [zeros]; omega)]
theorem bTo_last {c : Nat → Nat → Int} {q m P : Nat} : bTo c q m 0 P P = zeros P := by
  apply List.ext_getElem?
  intro k
  by_cases hk : k < P
  · simp [bTo, zeros, hk, bst]
  · rw [List.getElem?_eq_none (by simp [bTo]; omega), List.getElem?_eq_none (by simp [zeros]; omega)]
theorem bTo_at {c : Nat → Nat → Int} {q m r P x : Nat} (hx : x < P) : (bTo c q m r P P)[x]? = some (bst c q m r x) := by simp [bTo, hx]
theorem bTo_succ {c : Nat → Nat → Int} {q m r t P : Nat} : bTo c q m (r + 1) (t + 1) P = (bTo c q m (r + 1) t P).set t (mnB (fun k => c (m - (r + 1)) k + bst c q m r (t ||| 2 ^ k)) t q) := by
  apply List.ext_getElem?
  intro i
  by_cases hi : i < P
  · by_cases e : t = i
    · subst e
      rw [List.getElem?_set_self (by simp [bTo, hi])]
      simp [bTo, hi]
      rfl
    · rw [List.getElem?_set_ne e]
      have h3 : (i < t + 1) ↔ (i < t) := by omega
      simp [bTo, hi, h3]
  · rw [List.getElem?_eq_none (by simp [bTo]; omega), List.getElem?_eq_none (by simp [bTo]; omega)]
theorem mnB_bd {g : Nat → Int} {t : Nat} : ∀ {k : Nat}, (∀ j, j < k → 0 ≤ g j) → 0 ≤ mnB g t k ∧ mnB g t k ≤ 1099511627776
  | 0, _ => by rw [mnB]; omega
  | k + 1, h => by
    have ih := mnB_bd (g := g) (t := t) (k := k) (fun j hj => h j (by omega))
    have h0 := h k (by omega)
    rw [mnB]
    split <;> omega

theorem ints_at {M : List Int} {k : Nat} {x : Int} (h : M[k]? = some x) : (ints M).toArray[k]? = some (.int .i64 x) := by
  rw [List.getElem?_toArray]
  have := flat_get (fun n : Int => [Value.int .i64 n]) 1 (fun _ => rfl) M k x h 0 (by omega)
  unfold ints
  simpa using this
theorem blk_int {w : World} {g k : Nat} {M : List Int} {t : TypeId} {x : Int} (h : Blk w g (ints M).toArray t) (hk : M[k]? = some x) : w.cell? ⟨g, k, none⟩ = some (.int .i64 x) := (h.cell k).trans (ints_at hk)
theorem blk_set {w : World} {g k : Nat} {M : List Int} {t : TypeId} (h : Blk w g (ints M).toArray t) (x : Int) : Blk (w.setCell ⟨g, k, none⟩ (.int .i64 x)) g (ints (M.set k x)).toArray t := by
  have := h.set k (.int .i64 x)
  rwa [List.setIfInBounds_toArray, ← ints_set] at this
theorem own_blk {w : World} {base g n : Nat} {e : TypeId} {xs : List Value} (h : w.ownsRow base e 1 (.slice (some ⟨g, 0, none⟩) n n) n xs) (hn : 0 < n) : Blk w g xs.toArray e := by
  rcases h.2 with ⟨_, h2⟩ | ⟨g', cap, cur, hv, _, hh, _, _, hs, ht⟩
  · omega
  · simp only [Value.slice.injEq, Option.some.injEq, Addr.mk.injEq] at hv
    obtain ⟨⟨rfl, _⟩, _, rfl⟩ := hv
    have : cur = xs.toArray := by
      rw [← ht, List.take_of_length_le (by simp [hs])]
    unfold Blk
    rw [← this]
    exact hh

/-- The headers of the table: the rows from k on are there. -/
def hdr (m P k : Nat) (gs : Nat → Nat) : List Value := (List.range (m + 1)).map fun j => if k ≤ j then Value.slice (some ⟨gs j, 0, none⟩) P P else .slice none 0 0
theorem hdr_none {m P : Nat} {gs : Nat → Nat} : hdr m P (m + 1) gs = List.replicate (m + 1) (.slice none 0 0) := by
  apply List.ext_getElem?
  intro k
  by_cases hk : k < m + 1
  · have : ¬ m + 1 ≤ k := by omega
    simp [hdr, hk, this]
  · rw [List.getElem?_eq_none (by simp [hdr]; omega), List.getElem?_eq_none (by simp; omega)]
theorem made_hdr {m P : Nat} {gs : Nat → Nat} : (madeCells #[Value.slice none 0 0] ((m + 1) * 1)).toList = hdr m P (m + 1) gs := by
  rw [hdr_none]
  have := made_flat (fun _ : Unit => [Value.slice none 0 0]) 1 () (by omega) (fun _ => rfl) (m + 1)
  rw [show (#[Value.slice none 0 0] : Array Value) = [Value.slice none 0 0].toArray from rfl, this]
  induction m + 1 with
  | zero => rfl
  | succ n ih => rw [List.replicate_succ, List.flatMap_cons, ih]; rfl
theorem hdr_at {m P k j : Nat} {gs : Nat → Nat} (hj : j ≤ m) (hk : k ≤ j) : (hdr m P k gs).toArray[j]? = some (.slice (some ⟨gs j, 0, none⟩) P P) := by
  rw [List.getElem?_toArray]
  simp [hdr, show j < m + 1 by omega, hk]
theorem hdr_nil {m P k j : Nat} {gs : Nat → Nat} (hj : j ≤ m) (hk : j < k) : (hdr m P k gs).toArray[j]? = some (.slice none 0 0) := by
  rw [List.getElem?_toArray]
  simp [hdr, show j < m + 1 by omega, show ¬ k ≤ j by omega]
theorem hdr_set {m P i g : Nat} {gs : Nat → Nat} : (hdr m P (i + 1) gs).toArray.setIfInBounds i (.slice (some ⟨g, 0, none⟩) P P) = (hdr m P i (fun j => if j = i then g else gs j)).toArray := by
  rw [List.setIfInBounds_toArray]
  congr 1
  apply List.ext_getElem?
  intro j
  by_cases hj : j < m + 1
  · by_cases e : i = j
    · subst e
      rw [List.getElem?_set_self (by simp [hdr]; omega)]
      simp [hdr, hj]
    · rw [List.getElem?_set_ne e]
      have h3 : (i + 1 ≤ j) ↔ (i ≤ j) := by omega
      have h4 : ¬ j = i := fun h => e h.symm
      simp [hdr, hj, h3, h4]
  · rw [List.getElem?_eq_none (by simp [hdr]; omega), List.getElem?_eq_none (by simp [hdr]; omega)]
/-- The table in memory: its rows from k on are filled. -/
def BstO (w : World) (c : Nat → Nat → Int) (q m P gb k : Nat) (gs : Nat → Nat) : Prop :=
  Blk w gb (hdr m P k gs).toArray 23 ∧ ∀ j, k ≤ j → j ≤ m → gs j ≠ gb ∧ Blk w (gs j) (ints (bTo c q m (m - j) P P)).toArray 3
def BstE (w : World) (c : Nat → Nat → Int) (q m P gb k : Nat) : Prop := ∃ gs, BstO w c q m P gb k gs
theorem BstO.below {w w' : World} {c : Nat → Nat → Int} {q m P gb k : Nat} {gs : Nat → Nat} (h : BstO w c q m P gb k gs) (hb : Below w.heap.size w w') : BstO w' c q m P gb k gs :=
  ⟨h.1.below hb h.1.lt, fun j h1 h2 => ⟨(h.2 j h1 h2).1, (h.2 j h1 h2).2.below hb (h.2 j h1 h2).2.lt⟩⟩
/-- A row more: its block lies behind all others. -/
theorem BstO.more {w : World} {c : Nat → Nat → Int} {q m P gb i g : Nat} {gs : Nat → Nat} (hb : Blk w gb (hdr m P i (fun j => if j = i then g else gs j)).toArray 23) (hgb : gb < g)
    (hold : ∀ j, i + 1 ≤ j → j ≤ m → gs j ≠ gb ∧ Blk w (gs j) (ints (bTo c q m (m - j) P P)).toArray 3) (hnew : Blk w g (ints (bTo c q m (m - i) P P)).toArray 3) : BstE w c q m P gb i := by
  refine ⟨fun j => if j = i then g else gs j, hb, fun j h1 h2 => ?_⟩
  by_cases e : j = i
  · subst e
    simp only [if_true]
    exact ⟨by omega, hnew⟩
  · simp only [if_neg e]
    exact hold j (by omega) h2

/-- What the program's row picks stays. -/
theorem lcB_stay {c : Nat → Nat → Int} {n m i t j : Nat} (h : 0 ≤ lcB c n m i t j) : ∀ d, lcB c n m i t (j + d) = lcB c n m i t j
  | 0 => rfl
  | d + 1 => by
    show lcB c n m i t ((j + d) + 1) = _
    rw [lcB, lcB_stay h d, if_neg (fun h' => by omega)]
theorem lcB_found {c : Nat → Nat → Int} {n m i t k : Nat} (hk : k < n) (h : lcB c n m i t k < 0) (ht : t.testBit k = false) (he : c i k + bst c n m (m - (i + 1)) (t ||| 2 ^ k) = bst c n m (m - i) t) : lcB c n m i t n = (k : Int) := by
  have h1 : lcB c n m i t (k + 1) = (k : Int) := by rw [lcB, if_pos ⟨h, ht, he⟩]
  have h2 := lcB_stay (c := c) (n := n) (m := m) (i := i) (t := t) (j := k + 1) (by rw [h1]; omega) (n - (k + 1))
  rw [show k + 1 + (n - (k + 1)) = n by omega] at h2
  rw [h2, h1]
theorem lcB_pass {c : Nat → Nat → Int} {n m i t k : Nat} (h : lcB c n m i t k < 0) (hn : ¬ (t.testBit k = false ∧ c i k + bst c n m (m - (i + 1)) (t ||| 2 ^ k) = bst c n m (m - i) t)) : lcB c n m i t (k + 1) < 0 := by
  rw [lcB, if_neg (fun h' => hn h'.2)]
  exact h
theorem lcB_yes {c : Nat → Nat → Int} {n m : Nat} (hmn : m ≤ n) (hn : n ≤ 12) (hc : ∀ i k, i < m → k < n → 0 ≤ c i k ∧ c i k ≤ 2100000) {i : Nat} (hi : i < m) : ¬ lcB c n m i (lcS c n m i).1 n < 0 := by
  obtain ⟨h1, h2, h3⟩ := lcS_eq hmn hn hc i (by omega)
  have hs := mlS_spec hn (pad_bd hmn hc) i (by omega)
  obtain ⟨k, k1, k2, k3⟩ := mlB_some hn (show i < n by omega) (pad_bd hmn hc) hs.2.1
  rw [h1] at k2 k3
  have hB := lcB_eq hmn hn hc hi h3 n (Nat.le_refl _)
  rcases mlB_spec (c := pad c m) (n := n) (i := i) (S := comp n (lcS c n m i).1) n with ⟨_, g2⟩ | ⟨j, g1, g2, _⟩
  · exact absurd ⟨k2, k3⟩ (g2 k k1)
  · rw [← hB, g2]; omega
theorem lcS_lt {c : Nat → Nat → Int} {n m : Nat} (hmn : m ≤ n) (hn : n ≤ 12) (hc : ∀ i k, i < m → k < n → 0 ≤ c i k ∧ c i k ≤ 2100000) {i : Nat} (hi : i ≤ m) : (lcS c n m i).1 < 2 ^ n := by
  induction i with
  | zero => exact Nat.pow_pos (by omega)
  | succ i ih =>
    have h1 := ih (by omega)
    have h2 := lcB_yes hmn hn hc (show i < m by omega)
    rw [lcS]
    refine or_lt h1 ?_
    have h3 : ∀ j, lcB c n m i (lcS c n m i).1 j < j ∨ lcB c n m i (lcS c n m i).1 j < 0 := by
      intro j
      induction j with
      | zero => right; rw [lcB]; omega
      | succ j ih => rw [lcB]; split <;> omega
    have := h3 n
    omega
theorem lcS_len {c : Nat → Nat → Int} {n m : Nat} : ∀ i, (lcS c n m i).2.length = i
  | 0 => rfl
  | i + 1 => by rw [lcS]; show ((lcS c n m i).2 ++ _).length = _; rw [List.length_append, lcS_len i]; rfl
end Go.Proofs.Ythppancpecjegaa
