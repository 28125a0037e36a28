/-
  FnSheets: plain facts on charts, their sheets, and the charts of all sheets.
-/
import Derived.Test.YtbgbcajcajaocaaFsa
import Derived.Test.YtbgbcajcajaocaaSho
namespace Go.Proofs.Ytbgbcajcajaocaa
open Go.RowKit Go.Sort

/-- Where performer j stands in chart k. -/
def gat (G : List (List Sp)) (k j : Nat) : Sp := (G.getD k []).getD j ⟨0, 0⟩
theorem gat_at {G : List (List Sp)} {k j : Nat} {L : List Sp} {s : Sp} (hL : G[k]? = some L) (hs : L[j]? = some s) : gat G k j = s := by simp [gat, List.getD, hL, hs]
theorem so_at {G : List (List Sp)} {C : List Int} {j : Nat} : ∀ {m k : Nat}, k < m → (soTo G C j m)[k]? = some ⟨C.getD k 0, gat G (k + 1) j⟩
  | m + 1, k, h => by
    rw [soTo]
    by_cases e : k = m
    · subst e
      rw [List.getElem?_append_right (by rw [soTo_len]; omega), soTo_len, Nat.sub_self]
      rfl
    · rw [List.getElem?_append_left (by rw [soTo_len]; omega)]
      exact so_at (by omega)
section
variable {G : List (List Sp)} {C : List Int} {j : Nat}
theorem gat_ok (h : acOk G C = true) (hj : j < row0 G) {k : Nat} (hk : k < G.length) : isSp (gat G k j) = true := by
  obtain ⟨L, hL⟩ := some_of_lt hk
  have h1 := ac_row h hL
  obtain ⟨s, hs⟩ := some_of_lt (L := L) (k := j) (by rw [h1.2.1]; exact hj)
  rw [gat_at hL hs]
  exact chTo_at (chOk_iff.1 h1.1).2 (List.getElem?_eq_some_iff.1 hs).1 hs
theorem cnt_ok (h : acOk G C = true) {k : Nat} (hk : k < C.length) : 1 ≤ C.getD k 0 ∧ C.getD k 0 ≤ 64 := by
  obtain ⟨n, hn⟩ := some_of_lt hk
  have h1 := inR_iff.1 (all_at (acOk_iff.1 h).2.2.2 hn)
  simp only [List.getD, hn, Option.getD]
  exact h1
theorem cnt_all (h : acOk G C = true) : ∀ x ∈ C, 0 ≤ x ∧ x ≤ 64 := fun x hx => by
  have h1 := inR_iff.1 (List.all_eq_true.1 (acOk_iff.1 h).2.2.2 x hx)
  omega
theorem so_all (h : acOk G C = true) (hj : j < row0 G) : (soTo G C j C.length).all isRw = true := by
  rw [List.all_eq_true]
  intro r hr
  obtain ⟨k, hk⟩ := List.getElem?_of_mem hr
  have hkl : k < C.length := by have := (List.getElem?_eq_some_iff.1 hk).1; rwa [soTo_len] at this
  rw [so_at hkl] at hk
  obtain rfl := Option.some.inj hk
  exact isRw_iff.2 ⟨cnt_ok h hkl, gat_ok h hj (by have := (acOk_iff.1 h).2.2.1; omega)⟩
theorem so_ok (h : acOk G C = true) (hj : j < row0 G) : shOk (j : Int) (soS G j) (soTo G C j C.length) = true := by
  have h0 := acOk_iff.1 h
  obtain ⟨L, hL⟩ := some_of_lt (L := G) (k := 0) (by omega)
  have h1 := ac_row h hL
  refine shOk_iff.2 ⟨inR_iff.2 ⟨by omega, by omega⟩, ?_, by rw [soTo_len]; omega, so_all h hj⟩
  exact gat_ok h hj (k := 0) (by omega)
/-- A sheet leads to the last chart. -/
theorem so_leads (h : acOk G C = true) (hj : j < row0 G) : ldV (j : Int) (soS G j) (soTo G C j C.length) = gat G C.length j := by
  have hk := so_ok h hj
  by_cases h0 : C.length = 0
  · rw [ldV_first hk (by rw [soTo_len]; exact h0), h0]; rfl
  · have h1 : (soTo G C j C.length)[(soTo G C j C.length).length - 1]? = some ⟨C.getD (C.length - 1) 0, gat G (C.length - 1 + 1) j⟩ := by
      rw [soTo_len]
      exact so_at (by omega)
    rw [ldV_last hk h1]
    show gat G (C.length - 1 + 1) j = _
    rw [Nat.sub_add_cancel (by omega)]
theorem rdiv_full (t : Int) {c : Int} (h : 1 ≤ c) : rdiv (t * c) c = t := by
  unfold rdiv
  rw [show 2 * (t * c) + c = c + t * (2 * c) by rw [Int.mul_left_comm, Int.add_comm], Int.add_mul_ediv_right _ _ (by omega), Int.ediv_eq_zero_of_lt (by omega) (by omega), Int.zero_add]
theorem rnd_full {m : Mv} (h : 1 ≤ m.c) : rnd m m.c = m.t := by
  have e : ∀ f t : Int, f * m.c + m.c * (t - f) = t * m.c := fun f t => by
    rw [Int.mul_comm m.c, ← Int.add_mul]
    congr 1
    omega
  unfold rnd plX plY
  rw [e, e, rdiv_full _ h, rdiv_full _ h]
theorem smTo_step (k : Nat) : smTo C (k + 1) = smTo C k + C.getD k 0 := rfl
theorem smTo_lt (h : acOk G C = true) {i : Nat} : ∀ {k : Nat}, i ≤ k → k < C.length → smTo C i < smTo C (k + 1)
  | 0, hi, hk => by
    obtain rfl : i = 0 := by omega
    have := cnt_ok h hk
    rw [smTo_step]; omega
  | k + 1, hi, hk => by
    have h1 := cnt_ok h hk
    rw [smTo_step (k + 1)]
    by_cases e : i = k + 1
    · subst e; omega
    · have := smTo_lt h (i := i) (k := k) (by omega) (by omega)
      omega
theorem so_move {k : Nat} (hk : k < C.length) : ∃ f, (mvs (soS G j) (soTo G C j C.length))[k]? = some ⟨f, gat G (k + 1) j, C.getD k 0⟩ := by
  have h1 := so_at (G := G) (C := C) (j := j) hk
  obtain ⟨f, hf⟩ := some_of_lt (L := ats (soS G j) (soTo G C j C.length)) (k := k) (by rw [ats_len, soTo_len]; omega)
  exact ⟨f, mvs_at hf h1⟩
theorem sa_from (h : acOk G C = true) {k : Nat} (hk : k < C.length) : ∀ (d i : Nat), i + d = k → saTo ((mvs (soS G j) (soTo G C j C.length)).drop i) (smTo C (k + 1) - smTo C i) = some (gat G (k + 1) j)
  | 0, i, hi => by
    obtain rfl : i = k := by omega
    obtain ⟨f, hf⟩ := so_move (G := G) (C := C) (j := j) hk
    have hc := cnt_ok h hk
    have e : smTo C (i + 1) - smTo C i = C.getD i 0 := by rw [smTo_step]; omega
    rw [saTo_step hf, e, if_pos (Int.le_refl _)]
    exact congrArg some (rnd_full (m := ⟨f, gat G (i + 1) j, C.getD i 0⟩) hc.1)
  | d + 1, i, hi => by
    obtain ⟨f, hf⟩ := so_move (G := G) (C := C) (j := j) (k := i) (by omega)
    have h2 := smTo_lt h (i := i + 1) (k := k) (by omega) hk
    have e := smTo_step (C := C) i
    rw [saTo_step hf, if_neg (by show ¬ _ ≤ C.getD i 0; omega)]
    have e2 : smTo C (k + 1) - smTo C i - C.getD i 0 = smTo C (k + 1) - smTo C (i + 1) := by omega
    show saTo _ (smTo C (k + 1) - smTo C i - C.getD i 0) = _
    rw [e2]
    exact sa_from h hk d (i + 1) (by omega)
/-- Behind so many rows one stands in that chart. -/
theorem so_after (h : acOk G C = true) (hj : j < row0 G) {k : Nat} (hk : k < C.length) : saV (j : Int) (soS G j) (soTo G C j C.length) (smTo C (k + 1)) = gat G (k + 1) j ∧ saOk (j : Int) (soS G j) (soTo G C j C.length) (smTo C (k + 1)) = true := by
  have h1 := smTo_lt h (i := 0) (k := k) (by omega) hk
  refine sa_some ?_
  rw [sa_pos (so_ok h hj) h1]
  have h2 := sa_from (j := j) h hk k 0 (by omega)
  rw [List.drop_zero] at h2
  rw [← h2]
  congr 1
  show smTo C (k + 1) = smTo C (k + 1) - 0
  omega
/-- Behind all rows one stands where the sheet leads. -/
theorem so_end (h : acOk G C = true) (hj : j < row0 G) : saV (j : Int) (soS G j) (soTo G C j C.length) (smTo C C.length) = gat G C.length j ∧ saOk (j : Int) (soS G j) (soTo G C j C.length) (smTo C C.length) = true := by
  by_cases h0 : C.length = 0
  · rw [h0]
    have h1 := so_ok h hj
    rw [h0] at h1
    exact sa_some (by rw [saR, h1]; rfl)
  · have h1 := so_after h hj (k := C.length - 1) (by omega)
    rw [Nat.sub_add_cancel (by omega)] at h1
    exact h1
/-- The sheets of the first n performers. -/
def shAll (G : List (List Sp)) (C : List Int) (n : Nat) : List Sh := (List.range n).map fun (i : Nat) => ((i : Int), soS G i, soTo G C i C.length)
theorem shAll_succ (n : Nat) : shAll G C (n + 1) = shAll G C n ++ [((n : Int), soS G n, soTo G C n C.length)] := by simp [shAll, List.range_succ]
theorem shAll_len (n : Nat) : (shAll G C n).length = n := by simp [shAll]
theorem shAll_at {n i : Nat} (hi : i < n) : (shAll G C n)[i]? = some ((i : Int), soS G i, soTo G C i C.length) := by simp [shAll, hi]
theorem all_rows0 (hn : 0 < row0 G) : rows0 (shAll G C (row0 G)) = soTo G C 0 C.length := rows0_at (shAll_at hn)
theorem so_get {m k : Nat} (hk : k < m) : ((soTo G C j m).getD k rz) = ⟨C.getD k 0, gat G (k + 1) j⟩ := by simp [List.getD, so_at hk]
theorem allI_every {α : Type} {f : Nat → α → Bool} {S : List α} : ∀ n, (∀ k a, k < n → S[k]? = some a → f k a = true) → allI f S n = true
  | 0, _ => rfl
  | n + 1, h => by
    rw [allI, allI_every n (fun k a hk ha => h k a (by omega) ha), Bool.true_and]
    cases e : S[n]? with
    | none => rfl
    | some a => exact h n a (by omega) e
theorem all_al (h : acOk G C = true) : alOk (shAll G C (row0 G)) = true := by
  have h0 := acOk_iff.1 h
  obtain ⟨L, hL⟩ := some_of_lt (L := G) (k := 0) (by omega)
  have h1 := ac_row h hL
  refine alOk_iff.2 ⟨by rw [shAll_len]; omega, allI_every _ (fun k a hk ha => ?_)⟩
  rw [shAll_len] at hk
  rw [shAll_at hk] at ha
  obtain rfl := Option.some.inj ha
  rw [all_rows0 (by omega), sBoth, sOne, Bool.and_eq_true, Bool.and_eq_true, Bool.and_eq_true, decide_eq_true_eq, decide_eq_true_eq]
  refine ⟨⟨⟨so_ok h hk, rfl⟩, by show (soTo G C k C.length).length = _; rw [soTo_len, soTo_len]⟩, cnTo_all _ (fun i hi => ?_)⟩
  rw [soTo_len] at hi
  show ((soTo G C k C.length).getD i rz).c = _
  rw [so_get hi, so_get hi]
theorem col_of {L : List Sp} {k n : Nat} (hL : G[k]? = some L) (hl : L.length = n) : (List.range n).map (fun i => gat G k i) = L := by
  apply List.ext_getElem?
  intro i
  by_cases hi : i < n
  · obtain ⟨s, hs⟩ := some_of_lt (L := L) (k := i) (by omega)
    rw [hs]
    simp [hi, gat_at hL hs]
  · rw [List.getElem?_eq_none (by simp; omega), List.getElem?_eq_none (by omega)]
theorem all_charts (h : acOk G C = true) : coG (shAll G C (row0 G)) = G := by
  have h0 := acOk_iff.1 h
  obtain ⟨L, hL⟩ := some_of_lt (L := G) (k := 0) (by omega)
  have h1 := ac_row h hL
  have hr := all_rows0 (G := G) (C := C) (by omega)
  apply List.ext_getElem?
  intro k
  by_cases hk : k < G.length
  · obtain ⟨M, hM⟩ := some_of_lt hk
    have h2 := ac_row h hM
    rw [hM]
    cases k with
    | zero =>
      rw [coG, List.getElem?_cons_zero]
      congr 1
      rw [staTo, List.take_of_length_le (Nat.le_refl _), shAll, List.map_map]
      exact col_of hM h2.2.1
    | succ k =>
      have hkC : k < C.length := by omega
      rw [coG, List.getElem?_cons_succ, hr, soTo_len]
      rw [List.getElem?_map, List.getElem?_range hkC]
      show some (colTo _ k _) = some M
      congr 1
      rw [colTo, List.take_of_length_le (Nat.le_refl _), shAll, List.map_map]
      refine Eq.trans ?_ (col_of hM h2.2.1)
      refine List.map_congr_left (fun i _ => ?_)
      show ((soTo G C i C.length).getD k rz).t = gat G (k + 1) i
      rw [so_get hkC]
  · rw [List.getElem?_eq_none (by rw [coG_len, hr, soTo_len]; omega), List.getElem?_eq_none (by omega)]
theorem all_counts (h : acOk G C = true) : coC (shAll G C (row0 G)) = C := by
  have h0 := acOk_iff.1 h
  obtain ⟨L, hL⟩ := some_of_lt (L := G) (k := 0) (by omega)
  have h1 := ac_row h hL
  rw [coC, all_rows0 (G := G) (C := C) (by omega)]
  apply List.ext_getElem?
  intro k
  by_cases hk : k < C.length
  · obtain ⟨n, hn⟩ := some_of_lt hk
    rw [List.getElem?_map, so_at hk, hn]
    simp [List.getD, hn]
  · rw [List.getElem?_eq_none (by simp [soTo_len]; omega), List.getElem?_eq_none (by omega)]
/-- The sheets of all performers are put together to the charts again. -/
theorem all_co (h : acOk G C = true) : coOk (shAll G C (row0 G)) = true ∧ coGV (shAll G C (row0 G)) = G ∧ coCV (shAll G C (row0 G)) = C := by
  have e : coOk (shAll G C (row0 G)) = true := by rw [coOk, all_al h, all_charts h, all_counts h, h]; rfl
  exact ⟨e, by rw [coGV, if_pos e, all_charts h], by rw [coCV, if_pos e, all_counts h]⟩
end
end Go.Proofs.Ytbgbcajcajaocaa
