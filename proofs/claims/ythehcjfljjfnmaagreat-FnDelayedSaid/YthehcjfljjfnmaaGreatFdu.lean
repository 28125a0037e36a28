/-
  Plain facts for the walk of the law of delays: bounds of the least square, the two moves changed about, places at a count.
-/
import Derived.Test.YthehcjfljjfnmaaGreatFdt
namespace Go.Proofs.YthehcjfljjfnmaaGreat
open Go.RowKit

theorem ld_all {a b : Mv} {p q : Int} (h : ldOk a b p q = true) : mvOk a ∧ mvOk b ∧ b.c = a.c ∧ (0 ≤ p ∧ p ≤ 4) ∧ (0 ≤ q ∧ q ≤ 4) ∧ shMv a = true ∧ shMv b = true ∧ tgOk a b = true := by
  obtain ⟨h1, h2, h3, h4⟩ := ldOk_iff.1 h
  obtain ⟨h5, h6, h7⟩ := tgOk_iff.1 h2
  have ha := shMv_ok h1
  have hb := tg_ok h2 ha
  refine ⟨ha, hb.1, hb.2, h3, h4, h1, ?_, h2⟩
  rw [shMv, h6, Bool.true_and, decide_eq_true_eq]
  have := ha.2.2.2
  omega
theorem ld_bd {a b : Mv} {p q : Int} (h : ldOk a b p q = true) : 0 ≤ ldA a b p q ∧ ldA a b p q ≤ 193954251360993280 ∧ 0 < ldB a b p q ∧ ldB a b p q ≤ 563200000000 := by
  obtain ⟨ha, hb, hc, hp, hq, -, -, -⟩ := ld_all h
  obtain ⟨hX, hY⟩ := xx_bd ha hb p q
  obtain ⟨j, hj⟩ := cnt_pos (q := q) ha hp.1
  obtain ⟨s1, s2, s3⟩ := spF_bd hX hY (cntK a p q)
  have s0 : 0 ≤ (spF (xx a b p q) (yy a b p q) (cntK a p q)).1 := by rw [hj]; exact (spF_ok _ _ j).1
  obtain ⟨⟨d1, d2⟩, ⟨d3, d4⟩⟩ := area_bd s2 s3 ha.2.2.1 ha.2.2.2
  obtain ⟨g, hg, -, -, -, n1, n2, n3, n4⟩ := lw_facts s0 d3
  rw [ldA, ldB, if_pos h, if_pos h, ldN, ldD]
  omega
theorem ld_back {a b : Mv} {p q : Int} (h : ldOk a b p q = true) : ldOk b a q p = true ∧ ldA b a q p = ldA a b p q ∧ ldB b a q p = ldB a b p q := by
  obtain ⟨ha, hb, hc, hp, hq, h1, h2, h3⟩ := ld_all h
  have h4 : ldOk b a q p = true := by
    obtain ⟨h5, h6, h7⟩ := tgOk_iff.1 h3
    exact ldOk_iff.2 ⟨h2, tgOk_iff.2 ⟨h6, h5, h7.symm⟩, hq, hp⟩
  have h5 := ld_swap (a := a) (b := b) hc p q
  rw [ldA, ldB, ldA, ldB, if_pos h, if_pos h4, if_pos h4, if_pos h]
  exact ⟨h4, h5.1, h5.2⟩
theorem ld_at {a b : Mv} {p q : Int} (h : ldOk a b p q = true) {k : Nat} (hk : (k : Int) ≤ a.c + 4) : pdOk a p k = true ∧ pdOk b q k = true ∧ bx (pdX a p k - pdX b q k) ∧ byy (pdY a p k - pdY b q k)
    ∧ fLt ((pdX a p k - pdX b q k) * (pdX a p k - pdX b q k) + (pdY a p k - pdY b q k) * (pdY a p k - pdY b q k), a.c * a.c) (ldA a b p q, ldB a b p q) = false := by
  obtain ⟨ha, hb, hc, hp, hq, h1, h2, h3⟩ := ld_all h
  have hac := ha.2.2
  have e1 : pdOk a p k = true := pdOk_iff.2 ⟨h1, hp, by omega⟩
  have e2 : pdOk b q k = true := pdOk_iff.2 ⟨h2, hq, by omega⟩
  have h4 := rl_bd ha hb p q k
  have h5 := ld_least ha hp.1 hq.1 hc k
  rw [pdX, pdX, pdY, pdY, if_pos e1, if_pos e2, if_pos e1, if_pos e2, ldA, ldB, if_pos h, if_pos h]
  exact ⟨e1, e2, h4.1, h4.2, h5⟩
theorem ld_same {a b : Mv} {p : Int} (h : ldOk a b p p = true) : tgOk a b = true ∧ laA a b = ldA a b p p ∧ laB a b = ldB a b p p := by
  obtain ⟨ha, hb, hc, hp, hq, h1, h2, h3⟩ := ld_all h
  have h4 := ld_apart ha hc hp.1
  rw [laA, laB, ldA, ldB, if_pos h, if_pos h, if_pos h3, if_pos h3]
  exact ⟨h3, h4.1.symm, h4.2.symm⟩
theorem cp_le (F T : List Sp) (n : Int) (P D : List Int) (L : Int) : (cpV F T n P D L).length ≤ 1048576 := by
  unfold cpV
  split
  · rename_i h
    simp only [irOk, Bool.and_eq_true] at h
    have h1 := dlOk_iff.1 h.1
    have h2 := rpOk_iff.1 h1.1
    have h3 := plOk_iff.1 (trOk_iff.1 h2.1).2.2.2.2
    have := clTo_len (mvT F T n P) D L (N := P.length) (by omega) P.length
    unfold clV
    omega
  · simp
end Go.Proofs.YthehcjfljjfnmaaGreat
