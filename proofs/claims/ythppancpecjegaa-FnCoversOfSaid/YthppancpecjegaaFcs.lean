/-
  Facts for the law of covers: the least cover is a cover, and its sum is the least sum.
-/
import Derived.Test.YthppancpecjegaaFcr
namespace Go.Proofs.Ythppancpecjegaa
open Go.RowKit

theorem cTo_app {L : List Sp} {mv op : List Int} {x : Int} : ∀ k, k ≤ mv.length → cTo L (mv ++ [x]) op k = cTo L mv op k
  | 0, _ => rfl
  | k + 1, hk => by
    have e : (mv ++ [x]).getD k 0 = mv.getD k 0 := by simp [List.getD, List.getElem?_append_left (show k < mv.length by omega)]
    rw [cTo, cTo, cTo_app k (by omega), e]
theorem covTo_app {sp mv : List Int} {x : Int} : ∀ k, k ≤ mv.length → covTo sp (mv ++ [x]) k = covTo sp mv k
  | 0, _ => rfl
  | k + 1, hk => by
    have e : (mv ++ [x]).getD k 0 = mv.getD k 0 := by simp [List.getD, List.getElem?_append_left (show k < mv.length by omega)]
    have e2 : (mv ++ [x]).take k = mv.take k := List.take_append_of_le_length (by omega)
    rw [covTo, covTo, covTo_app k (by omega), e, e2]
theorem lc_steps {L : List Sp} {a n : List Int} (h : abOk L a n = true) (hA : (opens a n).length ≤ (spares L.length a n).length) :
    ∀ i, i ≤ (opens a n).length →
      covTo (spares L.length a n) ((lcS (cst L (opens a n) (spares L.length a n)) (spares L.length a n).length (opens a n).length i).2.map fun k => (spares L.length a n).getD k.toNat 0) i = true ∧
      (∀ x ∈ ((lcS (cst L (opens a n) (spares L.length a n)) (spares L.length a n).length (opens a n).length i).2.map fun k => (spares L.length a n).getD k.toNat 0), ∃ k, (spares L.length a n)[k]? = some x ∧ (lcS (cst L (opens a n) (spares L.length a n)) (spares L.length a n).length (opens a n).length i).1.testBit k = true) ∧
      cTo L ((lcS (cst L (opens a n) (spares L.length a n)) (spares L.length a n).length (opens a n).length i).2.map fun k => (spares L.length a n).getD k.toNat 0) (opens a n) i + bst (cst L (opens a n) (spares L.length a n)) (spares L.length a n).length (opens a n).length ((opens a n).length - i) (lcS (cst L (opens a n) (spares L.length a n)) (spares L.length a n).length (opens a n).length i).1 = bst (cst L (opens a n) (spares L.length a n)) (spares L.length a n).length (opens a n).length (opens a n).length 0
  | 0, _ => ⟨rfl, (fun x hx => by cases hx), by rw [Nat.sub_zero]; show 0 + _ = _; rw [show (lcS (cst L (opens a n) (spares L.length a n)) (spares L.length a n).length (opens a n).length 0).1 = 0 from rfl]; omega⟩
  | i + 1, hi => by
    obtain ⟨h1, h2, h3⟩ := lc_steps h hA i (by omega)
    have hln := (ab_lens h).1
    have hsl := spares_len L.length a n
    have hcst := cst_bd (L := L) (op := opens a n) (sp := spares L.length a n) (ch_all (abOk_iff.1 h).1) (fun x hx => by obtain ⟨k, hk⟩ := List.mem_iff_getElem?.1 hx; obtain ⟨y, rfl, hy⟩ := op_nat h hk; omega) (fun x hx => spares_mem hx)
    obtain ⟨k, k1, _, k3, k4, k5⟩ := lc_at hA (by omega) hcst (show i < (opens a n).length by omega)
    obtain ⟨y, hy⟩ := some_of_lt (L := opens a n) (k := i) (by omega)
    obtain ⟨z, hz⟩ := some_of_lt k1
    have hlen := lcS_len (c := cst L (opens a n) (spares L.length a n)) (n := (spares L.length a n).length) (m := (opens a n).length) i
    obtain ⟨y, rfl, hyl⟩ := op_nat h hy
    have hzm := spares_mem (List.mem_of_getElem? hz)
    obtain ⟨z, rfl, hzl⟩ := nat_of hzm.1 hzm.2
    obtain ⟨s, hs⟩ := some_of_lt hzl
    obtain ⟨u, hu⟩ := some_of_lt hyl
    have hcik : cst L (opens a n) (spares L.length a n) i k = sq s u := cst_at hy hz hs hu
    rw [hcik] at k4
    rw [k5]
    generalize lcS (cst L (opens a n) (spares L.length a n)) (spares L.length a n).length (opens a n).length i = S at *
    obtain ⟨t, V⟩ := S
    simp only at h1 h2 h3 k3 k4 hlen ⊢
    have hf : (spares L.length a n).getD ((k : Int)).toNat 0 = (z : Int) := by rw [Int.toNat_natCast]; simp [List.getD, hz]
    rw [List.map_append, List.map_cons, List.map_nil, hf]
    have hml : (V.map fun k => (spares L.length a n).getD k.toNat 0).length = i := by rw [List.length_map, hlen]
    have hxi : ((V.map fun k => (spares L.length a n).getD k.toNat 0) ++ [(z : Int)])[i]? = some (z : Int) := by rw [List.getElem?_append_right (by omega), hml]; simp
    refine ⟨?_, ?_, ?_⟩
    · refine covTo_yes (by rw [covTo_app i (by omega)]; exact h1) hxi (has_at hz) ?_
      rw [List.take_append_of_le_length (by omega), List.take_of_length_le (by omega)]
      refine has_no.2 (fun hmem => ?_)
      obtain ⟨l, l1, l2⟩ := h2 _ hmem
      have := spares_inj l1 hz
      subst this
      rw [k3] at l2
      cases l2
    · intro x hx
      rcases List.mem_append.1 hx with hx | hx
      · obtain ⟨l, l1, l2⟩ := h2 x hx
        exact ⟨l, l1, by rw [or_test, l2]; rfl⟩
      · simp at hx
        subst hx
        exact ⟨k, hz, by rw [or_test]; simp⟩
    · rw [cTo_succ hxi hy hs hu, cTo_app i (by omega)]
      rw [← k4] at h3
      omega
/-- The least cover is a cover; its sum is the least sum. -/
theorem lc_cover {L : List Sp} {a n : List Int} (h : abOk L a n = true) (hA : lcA L a n = true) : covOk L.length a n (lcL L a n) = true ∧ csV L a n (lcL L a n) = lcN L a n ∧ (lcL L a n).length = (opens a n).length := by
  have hle : (opens a n).length ≤ (spares L.length a n).length := by rw [lcA, decide_eq_true_eq] at hA; exact hA
  obtain ⟨h1, _, h3⟩ := lc_steps h hle (opens a n).length (Nat.le_refl _)
  have e1 : lcL L a n = (lcS (cst L (opens a n) (spares L.length a n)) (spares L.length a n).length (opens a n).length (opens a n).length).2.map fun k => (spares L.length a n).getD k.toNat 0 := by rw [lcL, hA, if_pos rfl, lcV]
  have e2 : (lcL L a n).length = (opens a n).length := by rw [e1, List.length_map, lcS_len]
  have e3 : covOk L.length a n (lcL L a n) = true := covOk_iff.2 ⟨by rw [e2, e1]; exact h1, e2⟩
  refine ⟨e3, ?_, e2⟩
  rw [csV, if_pos (csOk_iff.2 ⟨h, e3⟩), lcN, hA, if_pos rfl, lcSum, e1]
  rw [Nat.sub_self] at h3
  have e4 : bst (cst L (opens a n) (spares L.length a n)) (spares L.length a n).length (opens a n).length 0 (lcS (cst L (opens a n) (spares L.length a n)) (spares L.length a n).length (opens a n).length (opens a n).length).1 = 0 := rfl
  omega
end Go.Proofs.Ythppancpecjegaa
