/-
  Plain mathematics for the law of places; TimeOf.
-/
import Derived.Test.YtdipmjflgjlfeaaFnp
import Derived.Test.YtdipmjflgjlfeaaFlp
import Derived.Test.YtdipmjflgjlfeaaLic
import Derived.Test.YtdipmjflgjlfeaaEnt
namespace Go.Proofs.Ytdipmjflgjlfeaa
open Go.RowKit

theorem ent_at {L : List Sp} {O : List Int} {M : List Sp} (h : (entOk L O && srcOk M) = true) {i : Nat} {q : Sp} (hq : M[i]? = some q) : (entOk L O && isSp q) = true ∧ hsprV L O q = hspr L O q ∧ 0 ≤ hspr L O q ∧ hspr L O q ≤ 20302 := by
  obtain ⟨h1, h2⟩ : entOk L O = true ∧ srcOk M = true := by simpa using h
  obtain ⟨k1, k2, k3⟩ := entOk_iff.1 h1
  obtain ⟨g1, g2, g3⟩ := srcOk_iff.1 k1
  obtain ⟨t1, t2, t3⟩ := srcOk_iff.1 h2
  have hq2 := all_at t1 hq
  have h3 : (entOk L O && isSp q) = true := by simp [h1, hq2]
  have hb := hspr_bd g3 g1 (off_all k2) k3 hq2
  exact ⟨h3, by rw [hsprV, if_pos h3], hb.1, hb.2.1⟩
theorem gp_facts {L : List Sp} {O : List Int} {M : List Sp} {m : Int} (h : ((entOk L O && srcOk M) && inR m 0 4000) = true) : ∃ V : List Int, gpV L O M m = V ∧ V.length ≤ 40 ∧ M.length ≤ 40 ∧
    ∀ (i : Nat) (q : Sp), M[i]? = some q → (entOk L O && isSp q) = true ∧ (((i : Int) ∈ V) ↔ hsprV L O q ≤ m) := by
  have h1 : (entOk L O && srcOk M) = true := by
    cases h2 : (entOk L O && srcOk M)
    · rw [h2] at h; simp at h
    · rfl
  obtain ⟨_, hM⟩ : entOk L O = true ∧ srcOk M = true := by simpa using h1
  obtain ⟨t1, t2, t3⟩ := srcOk_iff.1 hM
  have hl : (hsprs L O M).length = M.length := by simp [hsprs]
  refine ⟨upto (hsprs L O M) m M.length, by rw [gpV, if_pos h], ?_, t2, fun i q hq => ?_⟩
  · have := upto_le (T := hsprs L O M) (m := m) M.length (by omega); omega
  · obtain ⟨a1, a2, _, _⟩ := ent_at h1 hq
    refine ⟨a1, ?_⟩
    rw [a2]
    exact upto_mem (hsprs_at hq) M.length (by omega) (List.getElem?_eq_some_iff.1 hq).1
/-- The first greatest of a list of numbers from 0 on. -/
theorem wlTo_facts {T : List Int} (hT : ∀ x ∈ T, 0 ≤ x) : ∀ k, k + 1 ≤ T.length → (wlTo T (k + 1)).1 < k + 1 ∧ T[(wlTo T (k + 1)).1]? = some (wlTo T (k + 1)).2 ∧ ∀ (i : Nat) (u : Int), i < k + 1 → T[i]? = some u → u ≤ (wlTo T (k + 1)).2 ∧ (u = (wlTo T (k + 1)).2 → (wlTo T (k + 1)).1 ≤ i)
  | 0, h => by
    obtain ⟨t, ht⟩ := some_of_lt (L := T) (k := 0) (by omega)
    have h0 := hT t (List.mem_of_getElem? ht)
    have e : wlTo T (0 + 1) = (0, t) := by
      rw [wlTo_succ (n := 0) (m := -1) rfl ht, if_pos (by omega)]
    rw [e]
    refine ⟨by omega, ht, fun i u hi hu => ?_⟩
    have : i = 0 := by omega
    subst this
    rw [ht] at hu
    cases hu
    exact ⟨Int.le_refl _, fun _ => Nat.le_refl _⟩
  | k + 1, h => by
    obtain ⟨h1, h2, h3⟩ := wlTo_facts hT k (by omega)
    obtain ⟨t, ht⟩ := some_of_lt (L := T) (k := k + 1) (by omega)
    rw [wlTo_succ (n := (wlTo T (k + 1)).1) (m := (wlTo T (k + 1)).2) rfl ht]
    split
    · rename_i hc
      refine ⟨by show k + 1 < k + 1 + 1; omega, ht, fun i u hi hu => ?_⟩
      show u ≤ t ∧ (u = t → k + 1 ≤ i)
      by_cases e : i = k + 1
      · subst e; rw [ht] at hu; cases hu; exact ⟨Int.le_refl _, fun _ => Nat.le_refl _⟩
      · have := (h3 i u (by omega) hu).1
        exact ⟨by omega, fun e2 => by omega⟩
    · rename_i hc
      refine ⟨by show (wlTo T (k + 1)).1 < k + 1 + 1; omega, h2, fun i u hi hu => ?_⟩
      show u ≤ (wlTo T (k + 1)).2 ∧ (u = (wlTo T (k + 1)).2 → (wlTo T (k + 1)).1 ≤ i)
      by_cases e : i = k + 1
      · subst e; rw [ht] at hu; cases hu; exact ⟨by omega, fun _ => by omega⟩
      · exact h3 i u (by omega) hu
theorem wl_facts {L : List Sp} {O : List Int} {M : List Sp} (h : (entOk L O && srcOk M) = true) : ∃ (j : Nat) (t : Int), wl1 L O M = (j : Int) ∧ wl2 L O M = t ∧ M.length ≤ 40 ∧
    ∀ (i : Nat) (q : Sp), M[i]? = some q → (entOk L O && isSp q) = true ∧ hsprV L O q ≤ t ∧ (hsprV L O q = t → j ≤ i) ∧ (i = j → hsprV L O q = t) := by
  obtain ⟨_, hM⟩ : entOk L O = true ∧ srcOk M = true := by simpa using h
  obtain ⟨t1, t2, t3⟩ := srcOk_iff.1 hM
  have hl : (hsprs L O M).length = M.length := by simp [hsprs]
  have hT : ∀ x ∈ hsprs L O M, 0 ≤ x := by
    intro x hx
    obtain ⟨q, hq, rfl⟩ := List.mem_map.1 hx
    obtain ⟨i, hi⟩ := List.getElem?_of_mem hq
    exact (ent_at h hi).2.2.1
  obtain ⟨n, hn⟩ : ∃ n, M.length = n + 1 := ⟨M.length - 1, by omega⟩
  obtain ⟨f1, f2, f3⟩ := wlTo_facts hT n (by omega)
  rw [← hn] at f1 f2 f3
  refine ⟨_, _, by rw [wl1, if_pos h], by rw [wl2, if_pos h], t2, fun i q hq => ?_⟩
  obtain ⟨a1, a2, _, _⟩ := ent_at h hq
  have hi := (List.getElem?_eq_some_iff.1 hq).1
  have := f3 i _ (by omega) (hsprs_at hq)
  rw [a2]
  refine ⟨a1, this.1, this.2, fun e => ?_⟩
  subst e
  rw [hsprs_at hq] at f2
  exact Option.some.inj f2
theorem bcTo_eq {T : List Int} (hT : ∀ x ∈ T, 0 ≤ x) : ∀ k, k + 1 ≤ T.length → bcTo T (k + 1) = (argmin T (k + 1), T.getD (argmin T (k + 1)) 0)
  | 0, h => by
    obtain ⟨t, ht⟩ := some_of_lt (L := T) (k := 0) (by omega)
    rw [bcTo_succ (n := 0) (m := -1) rfl ht, if_pos (by omega)]
    have e : argmin T (0 + 1) = 0 := by
      rw [argmin, argmin]; split <;> rfl
    rw [e, getD_of ht]
  | k + 1, h => by
    obtain ⟨t, ht⟩ := some_of_lt (L := T) (k := k + 1) (by omega)
    have hl := argmin_lt T (k + 1) (by omega) (by omega)
    obtain ⟨u, hu⟩ := some_of_lt hl
    have hu0 := hT u (List.mem_of_getElem? hu)
    rw [bcTo_succ (bcTo_eq hT k (by omega)) ht, argmin_step ht hu, getD_of hu]
    by_cases hc : t < u
    · rw [if_pos (by omega), if_pos hc, getD_of ht]
    · rw [if_neg (by omega), if_neg hc, getD_of hu]
theorem times_offOk {L : List Sp} {p : Sp} (h : srcOk L = true) (hp : isSp p = true) : offOk (times L p) = true ∧ entOk L (times L p) = true := by
  obtain ⟨g1, g2, g3⟩ := srcOk_iff.1 h
  have h1 : offOk (times L p) = true := by
    rw [offOk, times_len, Bool.and_eq_true]
    exact ⟨List.all_eq_true.2 (fun x hx => inR_iff.2 (by have := times_all g1 hp x hx; omega)), inR_iff.2 (by omega)⟩
  exact ⟨h1, entOk_iff.2 ⟨h, h1, (times_len L p).symm⟩⟩
theorem zeros_ok {L : List Sp} (h : srcOk L = true) : entOk L (zeros L.length) = true := by
  obtain ⟨g1, g2, g3⟩ := srcOk_iff.1 h
  refine entOk_iff.2 ⟨h, ?_, (zeros_len _).symm⟩
  rw [offOk, zeros_len, Bool.and_eq_true]
  exact ⟨List.all_eq_true.2 (fun x hx => inR_iff.2 (by rw [List.eq_of_mem_replicate hx]; omega)), inR_iff.2 (by omega)⟩
/-- What the law asks of the best conductor. -/
theorem bc_facts {L M : List Sp} {a : Sp} (h : bcOk L M a = true) : ∃ (j : Nat) (t : Int), bc1 L M a = (j : Int) ∧ bc2 L M a = t ∧ M.length ≤ 40 ∧
    ∀ (i : Nat) (q : Sp), M[i]? = some q → (entOk L (zeros L.length) && isSp q) = true ∧ htV L (zeros L.length) q = times L q ∧ (entOk L (times L q) && isSp a) = true ∧ t ≤ hsprV L (times L q) a ∧ (hsprV L (times L q) a = t → j ≤ i) ∧ (i = j → hsprV L (times L q) a = t) := by
  obtain ⟨⟨h1, h2⟩, h3⟩ : (srcOk L = true ∧ srcOk M = true) ∧ isSp a = true := by simpa [bcOk] using h
  obtain ⟨g1, g2, g3⟩ := srcOk_iff.1 h1
  obtain ⟨t1, t2, t3⟩ := srcOk_iff.1 h2
  have hl : (bcs L M a).length = M.length := by simp [bcs]
  have hT : ∀ x ∈ bcs L M a, 0 ≤ x := by
    intro x hx
    obtain ⟨q, hq, rfl⟩ := List.mem_map.1 hx
    have hqs := List.all_eq_true.1 t1 q hq
    have hof := times_offOk h1 hqs
    exact (hspr_bd g3 g1 (off_all hof.1) (times_len L q).symm h3).1
  obtain ⟨n, hn⟩ : ∃ n, M.length = n + 1 := ⟨M.length - 1, by omega⟩
  have hbc := bcTo_eq hT n (by omega)
  rw [← hn] at hbc
  obtain ⟨j, t, e1, e2, e3, e4⟩ := argmin_facts (T := bcs L M a) (by omega)
  rw [hl] at e1
  refine ⟨j, t, by rw [bc1, if_pos h, hbc, e1], by rw [bc2, if_pos h, hbc, e1, getD_of e3], t2, fun i q hq => ?_⟩
  have hqs := all_at t1 hq
  have hof := times_offOk h1 hqs
  have hz : (entOk L (zeros L.length) && isSp q) = true := by simp [zeros_ok h1, hqs]
  have hent : (entOk L (times L q) && isSp a) = true := by simp [hof.2, h3]
  have hv : hsprV L (times L q) a = hspr L (times L q) a := by rw [hsprV, if_pos hent]
  have := e4 i _ (bcs_at hq)
  rw [hv]
  refine ⟨hz, by rw [htV, if_pos hz, heard_zeros], hent, this.1, this.2, fun e => ?_⟩
  subst e
  rw [bcs_at hq] at e3
  exact Option.some.inj e3
theorem et_facts {L : List Ms} {n : Int} {O : List Int} (h : etOk L n O = true) : ∃ V : List Int, etV L n O = V ∧ V.length = O.length ∧ O.length ≤ 40 ∧ musOk L = true ∧ 0 ≤ n ∧ n ≤ cnTo L L.length - 1 ∧
    ∀ (j : Nat) (o : Int), O[j]? = some o → V[j]? = some (muT L n + o) ∧ 0 ≤ muT L n + o ∧ -2000 ≤ o ∧ o ≤ 2000 := by
  obtain ⟨⟨h1, h2⟩, h3⟩ : (musHas L n = true ∧ offOk O = true) ∧ (ents L n O).all isTm = true := by simpa [etOk] using h
  obtain ⟨h4, h5⟩ : musOk L = true ∧ inR n 0 (cnTo L L.length - 1) = true := by simpa [musHas] using h1
  have h6 := inR_iff.1 h5
  refine ⟨ents L n O, by rw [etV, if_pos h], ents_len _ _ _, (offOk_len h2).2.2, h4, h6.1, h6.2, fun j o ho => ?_⟩
  have h7 := ents_at (L := L) (n := n) ho
  have h8 := all_at h3 h7
  have h9 := inR_iff.1 (List.all_eq_true.1 (offOk_len h2).1 o (List.mem_of_getElem? ho))
  exact ⟨h7, by simpa [isTm] using h8, h9.1, h9.2⟩
theorem back_facts {O : List Int} {b : Int} (h : shOk O b = true) : ∃ N : List Int, shV O b = N ∧ shOk N (-b) = true ∧ shV N (-b) = O ∧ N.length ≤ 40 ∧ O.length ≤ 40 ∧ -2000 ≤ b ∧ b ≤ 2000 := by
  obtain ⟨⟨h1, h2⟩, h3⟩ : (offOk O = true ∧ inR b (-2000) 2000 = true) ∧ offOk (shiftd O b) = true := by simpa [shOk] using h
  have hb := inR_iff.1 h2
  have e : shiftd (shiftd O b) (-b) = O := by
    simp only [shiftd, List.map_map]
    conv => rhs; rw [← List.map_id O]
    apply List.map_congr_left
    intro x _
    simp
    omega
  have h4 : shOk (shiftd O b) (-b) = true := by
    rw [shOk, h3, e, h1]
    have : inR (-b) (-2000) 2000 = true := inR_iff.2 (by omega)
    rw [this]; rfl
  refine ⟨shiftd O b, by rw [shV, if_pos h], h4, by rw [shV, if_pos h4, e], ?_, (offOk_len h1).2.2, hb.1, hb.2⟩
  rw [shiftd_len]; exact (offOk_len h1).2.2

set_option maxRecDepth 100000 in
theorem impl_TimeOf_any (A : Option Addr) (c : Nat) (L : List Ms) (n : Int) (w : World) (hm : Mem w A (measures L)) (hl : L.length ≤ 1048576) (hok : musOk L = true) (h0 : 0 ≤ n) (h1 : n ≤ cnTo L L.length - 1) : Calls Try.prog 68 #[.slice A L.length c, .int .i64 n] w fun e w' => e = .returned (.tuple #[.int .i64 (muT L n), .bool true]) ∧ Below w.heap.size w w' := by
  obtain ⟨g1, g2, g3⟩ := musOk_iff.1 hok
  have hcb := cnTo_bd g1 L.length (Nat.le_refl _)
  have HG := Lib.hid g1
  have HOK := Lib.hid hok
  have hir : inR n 0 (cnTo L L.length) = true := inR_iff.2 (by omega)
  have HIR := Lib.hid hir
  clear g1 hok hir
  go_enter Try.func68, Try.ntmps68
  go_wp2_with fail
  refine (IsMusic_any A c L _ hm hl).mono ?_
  rintro e w1 ⟨he, hq1⟩
  rw [HOK.out] at he
  subst he
  have hm1 := hm.below hq1
  have B1 := Lib.hid hq1
  clear hq1 hm
  go_wp2_with fail
  refine (countsOf_any A c L _ hm1 (by omega) HG.out).mono ?_
  rintro e w2 ⟨rfl, hq2⟩
  have hm2 := hm1.below hq2
  have B2 := Lib.hid (B1.out.trans (hq2.mono B1.out.size))
  clear hq2 hm1
  go_wp2_with fail
  refine (within_any _ _ _ _).mono ?_
  rintro e _ ⟨he, rfl⟩
  rw [HIR.out] at he
  subst he
  go_wp2_with fail
  refine (timeOf_any A c L n _ hm2 (by omega) HG.out h0 (by omega)).mono ?_
  rintro e w3 ⟨rfl, hq3⟩
  have B3 := Lib.hid (B2.out.trans (hq3.mono B2.out.size))
  clear hq3 hm2
  go_wp2
  go_ret2
  exact ⟨rfl, B3.out⟩
end Go.Proofs.Ytdipmjflgjlfeaa
