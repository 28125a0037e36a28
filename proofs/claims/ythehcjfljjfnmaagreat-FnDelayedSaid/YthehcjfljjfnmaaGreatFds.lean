/-
  Plain facts for the law of delays: places ahead of a delay and behind a move's end, lasts, standing, repairs.
-/
import Derived.Test.YthehcjfljjfnmaaGreatLap
import Derived.Test.YthehcjfljjfnmaaGreatDek
import Derived.Test.YthehcjfljjfnmaaGreatTrl
import Derived.Test.YthehcjfljjfnmaaGreatSta
namespace Go.Proofs.YthehcjfljjfnmaaGreat
open Go.RowKit

theorem pdOk_iff {m : Mv} {d c : Int} : pdOk m d c = true ↔ shMv m = true ∧ (0 ≤ d ∧ d ≤ 4) ∧ (0 ≤ c ∧ c ≤ 100) := by
  unfold pdOk
  rw [Bool.and_eq_true, Bool.and_eq_true, inR_iff, inR_iff, and_assoc]
theorem pd_before {m : Mv} {d c : Int} (h : pdOk m d c = true) (hc : c ≤ d) : pdX m d c = m.f.x * m.c ∧ pdY m d c = m.f.y * m.c := by
  have h1 := shMv_ok (pdOk_iff.1 h).1
  have h2 := h1.2.2
  have e : clk m.c d c = 0 := by unfold clk; omega
  rw [pdX, pdY, if_pos h, if_pos h, e, plX, plY]
  simp
theorem pd_behind {m : Mv} {d c : Int} (h : pdOk m d c = true) (hc : d + m.c ≤ c) : pdX m d c = m.t.x * m.c ∧ pdY m d c = m.t.y * m.c := by
  have h1 := shMv_ok (pdOk_iff.1 h).1
  have h2 := h1.2.2
  have e : clk m.c d c = m.c := by unfold clk; omega
  rw [pdX, pdY, if_pos h, if_pos h, e, plX, plY, ← Int.add_mul, ← Int.add_mul]
  constructor <;> congr 1 <;> omega
theorem mxTo_le {D : List Int} (h : ∀ x ∈ D, 0 ≤ x ∧ x ≤ 4) : ∀ k, 0 ≤ mxTo D k ∧ mxTo D k ≤ 4
  | 0 => by simp [mxTo]
  | k + 1 => by
    have h1 := mxTo_le h k
    have h2 : 0 ≤ D.getD k 0 ∧ D.getD k 0 ≤ 4 := by
      rw [List.getD_eq_getElem?_getD]
      cases e : D[k]? with
      | none => simp
      | some x => exact h x (List.mem_of_getElem? e)
    rw [mxTo]
    omega
theorem mxTo_ge {D : List Int} {k : Nat} : ∀ n, k < n → D.getD k 0 ≤ mxTo D n
  | 0, h => by omega
  | n + 1, h => by
    rw [mxTo]
    by_cases e : k = n
    · subst e; omega
    · have := mxTo_ge (D := D) (k := k) n (by omega); omega
theorem dlOk_iff_ {F T : List Sp} {n : Int} {P D : List Int} : dlOk F T n P D = true ↔ rpOk F T n P = true ∧ D.length = F.length ∧ ∀ x ∈ D, 0 ≤ x ∧ x ≤ 4 := by
  unfold dlOk
  simp only [Bool.and_eq_true, decide_eq_true_eq, List.all_eq_true, inR_iff, and_assoc]
theorem sa_dl {F T : List Sp} {n : Int} {P D : List Int} {a : Int} (h : saOk F T n P D a = true) : dlOk F T n P D = true := by
  rw [saOk, Bool.and_eq_true] at h; exact h.1
theorem stTo_all (m : List Mv) (D : List Int) (n a : Int) : ∀ N, (∀ k, k < N → D.getD k 0 + n - 1 < a) → (stTo m D n a N).length = N
  | 0, _ => rfl
  | N + 1, h => by
    have h1 : stB m D n a N = true := by
      unfold stB
      have h2 := h N (by omega)
      have h3 : inR a (D.getD N 0) (D.getD N 0 + n - 1) = false := by
        cases e : inR a (D.getD N 0) (D.getD N 0 + n - 1)
        · rfl
        · rw [inR_iff] at e; omega
      rw [h3]; simp
    rw [st_yes h1, List.length_append, stTo_all m D n a N (fun k hk => h k (by omega))]
    rfl
theorem ir_cp {F T : List Sp} {n : Int} {P D : List Int} {L : Int} (h : irOk F T n P D L = true) : irV F T n P D L = decide ((cpV F T n P D L).length = 0) := by
  rw [irV, cpV, h, if_pos rfl, Bool.true_and]
theorem dl_n {F T : List Sp} {n : Int} {P D : List Int} (h : dlOk F T n P D = true) : 1 ≤ n ∧ n ≤ 16 ∧ F.length ≤ 6 ∧ P.length = F.length ∧ D.length = F.length := by
  obtain ⟨h1, h2, _⟩ := dlOk_iff_.1 h
  obtain ⟨h3, h4, h5⟩ := rpOk_iff.1 h1
  obtain ⟨_, _, _, h6, h7⟩ := trOk_iff.1 h3
  refine ⟨h6.1, h4, h5, ?_, h2⟩
  simp only [plOk, Bool.and_eq_true, decide_eq_true_eq] at h7
  omega
theorem lasts_in {F T : List Sp} {n : Int} {P D : List Int} (h : dlOk F T n P D = true) : n ≤ rlV F T n P D ∧ rlV F T n P D ≤ n + 4 := by
  have := mxTo_le (dlOk_iff_.1 h).2.2 D.length
  rw [rlV, if_pos h]
  omega
theorem lasts_all {F T : List Sp} {n : Int} {P D : List Int} (h : dlOk F T n P D = true) : saOk F T n P D (rlV F T n P D) = true ∧ (stV F T n P D (rlV F T n P D)).length = F.length := by
  obtain ⟨h1, h2, _, h4, h5⟩ := dl_n h
  have h6 := lasts_in h
  have h7 : saOk F T n P D (rlV F T n P D) = true := by
    rw [saOk, h, Bool.true_and, inR_iff]; omega
  refine ⟨h7, ?_⟩
  rw [stV, if_pos h7, stTo_all]
  · exact h4
  · intro k hk
    have := mxTo_ge (D := D) (k := k) D.length (by omega)
    rw [rlV, if_pos h]
    omega
end Go.Proofs.YthehcjfljjfnmaaGreat
