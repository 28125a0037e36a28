/-
  Plain facts on sheets: the shortened sheet, the longest row, the same ways.
-/
import Derived.Test.YtdmgffcabjpihaaGreatDoorStp
namespace Go.Proofs.YtdmgffcabjpihaaGreatDoor
open Go.RowKit

def sumr : List Rw → Int
  | [] => 0
  | r :: L => r.c + sumr L
theorem mvs_cons (s : Sp) (r : Rw) (L : List Rw) : mvs s (r :: L) = ⟨s, r.t, r.c⟩ :: mvs r.t L := by simp [mvs, ats]
theorem mvs_nil (s : Sp) : mvs s [] = [] := by simp [mvs, ats]
theorem chn_mvs : ∀ (s : Sp) (L : List Rw), chn s (mvs s L)
  | s, [] => by rw [mvs_nil]; trivial
  | s, r :: L => by rw [mvs_cons]; exact ⟨rfl, chn_mvs r.t L⟩
theorem mvs_of_chn : ∀ {s : Sp} {J : List Mv}, chn s J → mvs s (J.map toRw) = J
  | s, [], _ => mvs_nil s
  | s, m :: J, h => by
    obtain ⟨h1, h2⟩ := h
    rw [List.map_cons, mvs_cons, mvs_of_chn (s := (toRw m).t) h2]
    cases m
    simp only [toRw] at h1 ⊢
    rw [← h1]
theorem sumc_mvs : ∀ (s : Sp) (L : List Rw) (k : Nat), sumc ((mvs s L).take k) = sumr (L.take k)
  | s, [], k => by simp [mvs_nil, sumc, sumr]
  | s, r :: L, 0 => by simp [sumc, sumr]
  | s, r :: L, k + 1 => by rw [mvs_cons]; simp only [List.take_succ_cons, sumc, sumr, sumc_mvs r.t L k]
theorem sumr_map : ∀ (J : List Mv), sumr (J.map toRw) = sumc J
  | [] => rfl
  | m :: J => by simp only [List.map_cons, sumr, sumc, sumr_map J, toRw]
theorem endp_mvs : ∀ (s : Sp) (L : List Rw), endp s (mvs s L) = (match L.getLast? with | none => s | some r => r.t)
  | s, [] => by rw [mvs_nil]; rfl
  | s, [r] => by rw [mvs_cons, mvs_nil]; rfl
  | s, r :: q :: L => by
    rw [mvs_cons]
    show endp r.t (mvs r.t (q :: L)) = _
    rw [endp_mvs r.t (q :: L), List.getLast?_cons_cons]
    cases h : (q :: L).getLast? with
    | none => simp at h
    | some x => rfl
section
variable {p : Int} {s : Sp} {L : List Rw} (h : shOk p s L = true)
include h
theorem mvs_isMv : ∀ (k : Nat) (m : Mv), (mvs s L)[k]? = some m → isMv m = true := by
  intro k m hm
  have h1 := shOk_iff.1 h
  have hk : k < L.length := by have := (List.getElem?_eq_some_iff.1 hm).1; rwa [mvs_len] at this
  obtain ⟨r, hr⟩ := some_of_lt hk
  obtain ⟨f, hf⟩ := some_of_lt (L := ats s L) (k := k) (by rw [ats_len]; omega)
  have e := Option.some.inj (hm.symm.trans (mvs_at hf hr))
  subst e
  have hr2 := isRw_iff.1 (List.all_eq_true.1 h1.2.2.2 r (List.mem_of_getElem? hr))
  refine isMv_iff.2 ⟨?_, hr2.2, hr2.1.1, hr2.1.2⟩
  rcases List.mem_cons.1 (List.mem_of_getElem? hf) with e | e
  · rw [e]; exact h1.2.1
  · obtain ⟨q, hq, rfl⟩ := List.mem_map.1 e
    exact (isRw_iff.1 (List.all_eq_true.1 h1.2.2.2 q hq)).2
theorem mvs_pos : ∀ m ∈ mvs s L, 1 ≤ m.c := by
  intro m hm
  obtain ⟨k, hk⟩ := List.getElem?_of_mem hm
  exact (isMv_iff.1 (mvs_isMv h k m hk)).2.2.1
theorem ss_in : Jin s (mvs s L) L.length (jnTo (mvs s L) L.length) := jn_in (mvs_pos h) (chn_mvs s L) _ (by rw [mvs_len]; exact Nat.le_refl _)
theorem ss_mvs : mvs s (ssV p s L) = jnTo (mvs s L) L.length := by
  rw [ssV, if_pos h]
  exact mvs_of_chn (ss_in h).chain
theorem ss_ok : shOk p s (ssV p s L) = true := by
  have h1 := shOk_iff.1 h
  obtain ⟨j1, j2⟩ := jn_all (mvs_isMv h) L.length
  rw [ssV, if_pos h]
  refine shOk_iff.2 ⟨h1.1, h1.2.1, by rw [List.length_map]; omega, List.all_eq_true.2 fun r hr => ?_⟩
  obtain ⟨m, hm, rfl⟩ := List.mem_map.1 hr
  have := isMv_iff.1 (j1 m hm)
  exact isRw_iff.2 ⟨this.2.2, this.2.1⟩
theorem ss_len : (ssV p s L).length ≤ L.length := by
  rw [ssV, if_pos h, List.length_map]
  exact (jn_all (mvs_isMv h) L.length).2
theorem ss_sum : sumr (ssV p s L) = sumr L := by
  have e := (ss_in h).sum
  rw [sumc_mvs, List.take_length] at e
  rw [ssV, if_pos h, sumr_map]
  exact e
theorem ss_ld : ldV p s (ssV p s L) = ldV p s L := by
  have e := (ss_in h).fin
  rw [← ss_mvs h, show L.length = (mvs s L).length by rw [mvs_len], List.take_length, endp_mvs, endp_mvs] at e
  simp only [ldV, ss_ok h, h, if_true]
  exact e
theorem sumr_pos {i : Nat} {r : Rw} (hr : L[i]? = some r) : 1 ≤ sumr (L.take (i + 1)) := by
  have e : L.take (i + 1) = L.take i ++ [r] := by rw [List.take_add_one, hr]; rfl
  have h1 := mvs_pos h
  rw [← sumc_mvs s L]
  obtain ⟨m, hm⟩ := some_of_lt (L := mvs s L) (k := i) (by rw [mvs_len]; exact (List.getElem?_eq_some_iff.1 hr).1)
  rw [take_snoc hm, sumc_app]
  have := sumc_nn (J := (mvs s L).take i) (fun x hx => h1 x (List.mem_of_mem_take hx))
  have := h1 m (List.mem_of_getElem? hm)
  simp only [sumc]; omega
theorem ss_after {i : Nat} {r : Rw} (hr : L[i]? = some r) : saOk p s (ssV p s L) (sumr (L.take (i + 1))) = true ∧ saV p s (ssV p s L) (sumr (L.take (i + 1))) = r.t := by
  obtain ⟨f, hf⟩ := some_of_lt (L := ats s L) (k := i) (by rw [ats_len]; have := (List.getElem?_eq_some_iff.1 hr).1; omega)
  have e := (ss_in h).ex i _ (List.getElem?_eq_some_iff.1 hr).1 (mvs_at hf hr)
  have e2 := ex_sa (ss_in h).pos e
  rw [sumc_mvs, ← ss_mvs h] at e2
  have e3 := sa_pos (ss_ok h) (show 0 < sumr (L.take (i + 1)) by have := sumr_pos h hr; omega)
  rw [e2] at e3
  simp [saOk, saV, e3]
end
theorem cpl_symm : ∀ (L M : List Rw), cpl L M = cpl M L
  | [], [] => rfl
  | [], _ :: _ => by simp [cpl]
  | _ :: _, [] => by simp [cpl]
  | a :: L, b :: M => by
    simp only [cpl]
    by_cases e : a = b
    · rw [if_pos e, if_pos e.symm, cpl_symm L M]
    · rw [if_neg e, if_neg (fun x => e x.symm)]
theorem sw_symm (p q : Int) (s t : Sp) (L M : List Rw) : swOk p q s t L M = swOk q p t s M L ∧ swV p q s t L M = swV q p t s M L := by
  have e : swOk p q s t L M = swOk q p t s M L := by
    simp only [swOk]
    rw [Bool.and_comm (shOk p s L), show decide (s = t) = decide (t = s) by simp [eq_comm]]
  exact ⟨e, by rw [swV, swV, e, cpl_symm]⟩
theorem mvs_chain {s : Sp} {L : List Rw} {i : Nat} {a b : Mv} (ha : (mvs s L)[i]? = some a) (hb : (mvs s L)[i + 1]? = some b) : a.t = b.f := by
  have h := chn_take (chn_mvs s L) hb
  rw [take_snoc ha, endp_app] at h
  exact h.symm
/-- The first greatest. -/
theorem lo_max {T : List Int} (h0 : ∀ x ∈ T, 0 ≤ x) : ∀ k, k ≤ T.length → 0 < k → (loTo T k).1 < k ∧ T.getD (loTo T k).1 0 = (loTo T k).2 ∧ 0 ≤ (loTo T k).2 ∧ ∀ i, i < k → T.getD i 0 ≤ (loTo T k).2 ∧ (T.getD i 0 = (loTo T k).2 → (loTo T k).1 ≤ i)
  | 0, _, h => absurd h (Nat.lt_irrefl _)
  | k + 1, hk, _ => by
    have hg : 0 ≤ T.getD k 0 := by
      rw [List.getD_eq_getElem?_getD, List.getElem?_eq_getElem (by omega), Option.getD_some]
      exact h0 _ (List.getElem_mem _)
    by_cases hk0 : k = 0
    · subst hk0
      have e0 : loTo T (0 + 1) = (0, T.getD 0 0) := if_pos (show (-1 : Int) < T.getD 0 0 by omega)
      rw [e0]
      refine ⟨by show (0 : Nat) < 0 + 1; omega, rfl, hg, fun i hi => ?_⟩
      have hi0 : i = 0 := by omega
      subst hi0
      exact ⟨Int.le_refl _, fun _ => Nat.le_refl _⟩
    · obtain ⟨a, b, c, d⟩ := lo_max h0 k (by omega) (by omega)
      simp only [loTo]
      by_cases hlt : (loTo T k).2 < T.getD k 0
      · rw [if_pos hlt]
        refine ⟨by omega, rfl, hg, fun i hi => ?_⟩
        by_cases e : i = k
        · subst e; exact ⟨Int.le_refl _, fun _ => Nat.le_refl _⟩
        · have := (d i (by omega)).1
          exact ⟨by show T.getD i 0 ≤ T.getD k 0; omega, fun e => by have e : T.getD i 0 = T.getD k 0 := e; omega⟩
      · rw [if_neg hlt]
        refine ⟨by omega, b, c, fun i hi => ?_⟩
        by_cases e : i = k
        · subst e; exact ⟨by omega, fun _ => by omega⟩
        · exact d i (by omega)
end Go.Proofs.YtdmgffcabjpihaaGreatDoor
