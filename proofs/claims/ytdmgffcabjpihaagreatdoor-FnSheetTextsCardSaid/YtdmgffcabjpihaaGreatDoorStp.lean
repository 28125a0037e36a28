/-
  Plain facts on shortened sheets: joined moves pass the same spots at the same counts.
-/
import Derived.Test.YtdmgffcabjpihaaGreatDoorShs
namespace Go.Proofs.YtdmgffcabjpihaaGreatDoor
open Go.RowKit

def sumc : List Mv → Int
  | [] => 0
  | m :: l => m.c + sumc l
def chn : Sp → List Mv → Prop
  | _, [] => True
  | s, m :: l => m.f = s ∧ chn m.t l
def endp : Sp → List Mv → Sp
  | s, [] => s
  | _, m :: l => endp m.t l
/-- One is at the spot x after n counts, without rounding. -/
def exTo : List Mv → Int → Sp → Prop
  | [], _, _ => False
  | m :: l, n, x => if n ≤ m.c then plX m n = x.x * m.c ∧ plY m n = x.y * m.c else exTo l (n - m.c) x
theorem sumc_app : ∀ (J K : List Mv), sumc (J ++ K) = sumc J + sumc K
  | [], K => by simp [sumc]
  | m :: J, K => by simp only [List.cons_append, sumc, sumc_app J K]; omega
theorem sumc_nn : ∀ {J : List Mv}, (∀ m ∈ J, 1 ≤ m.c) → 0 ≤ sumc J
  | [], _ => Int.le_refl _
  | m :: J, h => by
    have := sumc_nn (J := J) (fun x hx => h x (List.mem_cons_of_mem _ hx))
    have := h m (List.mem_cons_self ..)
    simp only [sumc]; omega
theorem chn_app : ∀ (s : Sp) (J : List Mv) (m : Mv), chn s (J ++ [m]) ↔ chn s J ∧ m.f = endp s J
  | s, [], m => by simp [chn, endp]
  | s, a :: J, m => by simp only [List.cons_append, chn, endp, chn_app a.t J m, and_assoc]
theorem endp_app : ∀ (s : Sp) (J : List Mv) (m : Mv), endp s (J ++ [m]) = m.t
  | s, [], m => rfl
  | s, a :: J, m => by simp only [List.cons_append, endp, endp_app a.t J m]
theorem ex_sa : ∀ {J : List Mv} {n : Int} {x : Sp}, (∀ m ∈ J, 1 ≤ m.c) → exTo J n x → saTo J n = some x
  | [], _, _, _, h => h.elim
  | m :: J, n, x, hc, h => by
    have h1 := hc m (List.mem_cons_self ..)
    simp only [exTo] at h
    simp only [saTo]
    by_cases hn : n ≤ m.c
    · rw [if_pos hn] at h ⊢
      rw [rnd, h.1, h.2, rdiv_whole _ h1, rdiv_whole _ h1]
    · rw [if_neg hn] at h ⊢
      exact ex_sa (fun y hy => hc y (List.mem_cons_of_mem _ hy)) h
theorem ex_left : ∀ {J : List Mv} (K : List Mv) {n : Int} {x : Sp}, exTo J n x → exTo (J ++ K) n x
  | [], _, _, _, h => h.elim
  | m :: J, K, n, x, h => by
    simp only [List.cons_append, exTo] at h ⊢
    by_cases hn : n ≤ m.c
    · rw [if_pos hn] at h ⊢; exact h
    · rw [if_neg hn] at h ⊢; exact ex_left K h
theorem pl_end (m : Mv) : plX m m.c = m.t.x * m.c ∧ plY m m.c = m.t.y * m.c := by
  unfold plX plY
  rw [Int.mul_sub, Int.mul_sub, Int.mul_comm m.c m.t.x, Int.mul_comm m.c m.f.x, Int.mul_comm m.c m.t.y, Int.mul_comm m.c m.f.y]
  omega
theorem ex_end : ∀ {J : List Mv} {m : Mv}, (∀ a ∈ J, 1 ≤ a.c) → 1 ≤ m.c → exTo (J ++ [m]) (sumc J + m.c) m.t
  | [], m, _, _ => by simp only [List.nil_append, exTo, sumc, Int.zero_add, Int.le_refl, if_true]; exact pl_end m
  | a :: J, m, h, hm => by
    have h1 := sumc_nn (J := J) (fun x hx => h x (List.mem_cons_of_mem _ hx))
    have ih := ex_end (J := J) (m := m) (fun x hx => h x (List.mem_cons_of_mem _ hx)) hm
    simp only [List.cons_append, exTo, sumc]
    rw [if_neg (by omega), show a.c + sumc J + m.c - a.c = sumc J + m.c by omega]
    exact ih
theorem alg {a b d p s n X : Int} (hp : 0 < p) (h1 : n * (b - a) = (X - a) * p) (h2 : p * (d - a) = (b - a) * s) : n * (d - a) = (X - a) * s := by
  apply Int.eq_of_mul_eq_mul_left (a := p) (by omega)
  calc p * (n * (d - a)) = n * (p * (d - a)) := by ac_rfl
    _ = n * ((b - a) * s) := by rw [h2]
    _ = (n * (b - a)) * s := by ac_rfl
    _ = ((X - a) * p) * s := by rw [h1]
    _ = p * ((X - a) * s) := by ac_rfl
theorem alg2 {a b d p s n X : Int} (hp : 0 < p) (h1 : a * p + n * (b - a) = X * p) (h2 : a * s + p * (d - a) = b * s) : a * s + n * (d - a) = X * s := by
  have e1 : (X - a) * p = X * p - a * p := Int.sub_mul ..
  have e2 : (b - a) * s = b * s - a * s := Int.sub_mul ..
  have e3 : (X - a) * s = X * s - a * s := Int.sub_mul ..
  have := alg (a := a) (b := b) (d := d) (p := p) (s := s) (n := n) (X := X) hp (by omega) (by omega)
  omega
theorem rdiv_of {x c : Int} (h : 1 ≤ c) (hm : x % c = 0) : x = rdiv x c * c := by
  have e : x = x / c * c := (Int.ediv_mul_cancel_of_emod_eq_zero hm).symm
  have := rdiv_whole (x / c) h
  rw [← e] at this
  rw [this]; exact e
theorem join_wh {l m : Mv} (h : joinOk l m = true) (hl : 1 ≤ l.c) (hm : 1 ≤ m.c) : plX (joinM l m) l.c = l.t.x * (l.c + m.c) ∧ plY (joinM l m) l.c = l.t.y * (l.c + m.c) := by
  simp only [joinOk, isWh, Bool.and_eq_true, decide_eq_true_eq] at h
  obtain ⟨⟨_, h1, h2⟩, h3⟩ := h
  have hc : (joinM l m).c = l.c + m.c := rfl
  have a := rdiv_of (by rw [hc]; omega) h1
  have b := rdiv_of (by rw [hc]; omega) h2
  rw [← h3, ← hc]
  exact ⟨a, b⟩
theorem ex_join {l m : Mv} (h : joinOk l m = true) (hl : 1 ≤ l.c) (hm : 1 ≤ m.c) {x : Sp} : ∀ {P : List Mv} {n : Int}, exTo (P ++ [l]) n x → exTo (P ++ [joinM l m]) n x
  | [], n, hx => by
    simp only [List.nil_append, exTo] at hx ⊢
    by_cases hn : n ≤ l.c
    · rw [if_pos hn] at hx
      rw [if_pos (show n ≤ (joinM l m).c by simp only [joinM]; omega)]
      obtain ⟨w1, w2⟩ := join_wh h hl hm
      simp only [plX, plY, joinM] at hx w1 w2 ⊢
      exact ⟨alg2 (by omega) hx.1 w1, alg2 (by omega) hx.2 w2⟩
    · rw [if_neg hn] at hx; exact hx.elim
  | a :: P, n, hx => by
    simp only [List.cons_append, exTo] at hx ⊢
    by_cases hn : n ≤ a.c
    · rw [if_pos hn] at hx ⊢; exact hx
    · rw [if_neg hn] at hx ⊢; exact ex_join h hl hm hx
theorem stepJ_app (P : List Mv) (l m : Mv) : stepJ (P ++ [l]) m = if joinOk l m then P ++ [joinM l m] else P ++ [l] ++ [m] := by
  simp only [stepJ, List.getLast?_append, List.getLast?_singleton, Option.some_or, List.length_append, List.length_singleton, Nat.add_sub_cancel]
  split
  · rw [List.set_append_right _ _ (Nat.le_refl _)]; simp
  · rfl
/-- What joining keeps. -/
structure Jin (s : Sp) (M : List Mv) (k : Nat) (J : List Mv) : Prop where
  pos : ∀ m ∈ J, 1 ≤ m.c
  sum : sumc J = sumc (M.take k)
  chain : chn s J
  fin : endp s J = endp s (M.take k)
  ex : ∀ i m, i < k → M[i]? = some m → exTo J (sumc (M.take (i + 1))) m.t
theorem take_snoc {M : List Mv} {k : Nat} {m : Mv} (h : M[k]? = some m) : M.take (k + 1) = M.take k ++ [m] := by
  rw [List.take_add_one, h]; rfl
theorem chn_take {s : Sp} {M : List Mv} (h : chn s M) : ∀ {k : Nat} {m : Mv}, M[k]? = some m → m.f = endp s (M.take k) := by
  induction M generalizing s with
  | nil => intro k m hm; simp at hm
  | cons a M ih =>
    intro k m hm
    cases k with
    | zero => simp at hm; subst hm; simpa [endp] using h.1
    | succ k => simp at hm; simpa [endp] using ih h.2 hm
theorem jn_in {s : Sp} {M : List Mv} (hM : ∀ m ∈ M, 1 ≤ m.c) (hc : chn s M) : ∀ k, k ≤ M.length → Jin s M k (jnTo M k)
  | 0, _ => ⟨by simp [jnTo], by simp [jnTo], trivial, by simp [jnTo], fun i m h => absurd h (Nat.not_lt_zero _)⟩
  | k + 1, hk => by
    have ih := jn_in hM hc k (by omega)
    obtain ⟨m, hm⟩ := some_of_lt (L := M) (k := k) (by omega)
    have hm1 := hM m (List.mem_of_getElem? hm)
    have ht := take_snoc hm
    have hf := chn_take hc hm
    rw [jnTo, hm]
    show Jin s M (k + 1) (stepJ (jnTo M k) m)
    generalize jnTo M k = J at ih
    have app : Jin s M (k + 1) (J ++ [m]) := by
      refine ⟨fun a ha => ?_, ?_, ?_, ?_, fun i x hi hx => ?_⟩
      · rcases List.mem_append.1 ha with h | h
        · exact ih.pos a h
        · simp at h; subst h; exact hm1
      · rw [sumc_app, ih.sum, ht, sumc_app]
      · rw [chn_app]; exact ⟨ih.chain, by rw [ih.fin]; exact hf⟩
      · rw [ht, endp_app, endp_app]
      · by_cases h : i = k
        · subst h
          obtain rfl := Option.some.inj (hm.symm.trans hx)
          rw [ht, sumc_app, ← ih.sum]
          have := ex_end (J := J) (m := m) ih.pos hm1
          simpa [sumc] using this
        · exact ex_left _ (ih.ex i x (by omega) hx)
    rcases List.eq_nil_or_concat J with h0 | ⟨P, l, h0⟩
    · subst h0; exact app
    · rw [List.concat_eq_append] at h0
      subst h0
      rw [stepJ_app]
      split
      · rename_i hj
        have hl1 := ih.pos l (by simp)
        have hs : sumc (P ++ [joinM l m]) = sumc (P ++ [l]) + m.c := by simp only [sumc_app, sumc, joinM]; omega
        refine ⟨fun a ha => ?_, ?_, ?_, ?_, fun i x hi hx => ?_⟩
        · rcases List.mem_append.1 ha with h | h
          · exact ih.pos a (by simp [h])
          · simp at h; subst h; simp only [joinM]; omega
        · rw [hs, ih.sum, ht, sumc_app]; simp [sumc]
        · have h1 := ih.chain
          rw [chn_app] at h1 ⊢
          exact ⟨h1.1, h1.2⟩
        · rw [ht, endp_app, endp_app]; rfl
        · by_cases h : i = k
          · subst h
            obtain rfl := Option.some.inj (hm.symm.trans hx)
            have := ex_end (J := P) (m := joinM l m) (fun a ha => ih.pos a (by simp [ha])) (by simp only [joinM]; omega)
            have e : sumc (M.take (i + 1)) = sumc P + (joinM l m).c := by rw [ht, sumc_app, ← ih.sum]; simp only [sumc_app, sumc, joinM]; omega
            rw [e]; exact this
          · exact ex_join hj hl1 hm1 (ih.ex i x (by omega) hx)
      · exact app
end Go.Proofs.YtdmgffcabjpihaaGreatDoor
