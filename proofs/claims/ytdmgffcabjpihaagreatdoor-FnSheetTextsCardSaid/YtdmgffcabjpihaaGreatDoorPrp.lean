/-
  Plain facts of texts: numerals, pieces of a text, what is read of spots.
-/
import Derived.Test.YtdmgffcabjpihaaGreatDoorStx
namespace Go.Proofs.YtdmgffcabjpihaaGreatDoor
open Go.Lib (decDigits)

def dig (b : UInt8) : Bool := decide (48 ≤ b.toNat) && decide (b.toNat ≤ 57)
/-- The value of digits. -/
def dv (l : List UInt8) : Nat := l.foldl (fun n b => 10 * n + (b.toNat - 48)) 0
theorem dv_snoc (l : List UInt8) (b : UInt8) : dv (l ++ [b]) = 10 * dv l + (b.toNat - 48) := by simp [dv]
/-- A numeral of at most K digits. -/
def num (K : Nat) (l : List UInt8) : Option Nat := if (decide (1 ≤ l.length) && decide (l.length ≤ K)) && (!(decide (l.head? = some 48) && decide (1 < l.length)) && l.all dig) then some (dv l) else none
theorem of48 {n : Nat} (h : n < 10) : (UInt8.ofNat (48 + n)).toNat = 48 + n := by rw [UInt8.toNat_ofNat']; omega
theorem dec_ne (n : Nat) : decDigits n ≠ [] := by
  rw [decDigits]
  split <;> simp
theorem dec_dig (n : Nat) : ∀ b ∈ decDigits n, dig b = true := by
  induction n using Nat.strongRecOn with
  | _ n ih =>
    intro b hb
    rw [decDigits] at hb
    split at hb
    · rename_i h
      simp only [List.mem_singleton] at hb
      subst hb
      have := of48 h
      simp only [dig, this, Bool.and_eq_true, decide_eq_true_eq]
      omega
    · rename_i h
      rcases List.mem_append.1 hb with hb | hb
      · exact ih (n / 10) (by omega) b hb
      · simp only [List.mem_singleton] at hb
        subst hb
        have := of48 (n := n % 10) (by omega)
        simp only [dig, this, Bool.and_eq_true, decide_eq_true_eq]
        omega
theorem dec_head (n : Nat) : (decDigits n).head? = some 48 → n = 0 := by
  induction n using Nat.strongRecOn with
  | _ n ih =>
    intro hb
    rw [decDigits] at hb
    split at hb
    · rename_i h
      simp only [List.head?_cons, Option.some.injEq] at hb
      have h1 := congrArg UInt8.toNat hb
      rw [of48 h] at h1
      have : (48 : UInt8).toNat = 48 := rfl
      omega
    · rename_i h
      have h2 : (decDigits (n / 10)).head? = some 48 := by
        cases e : decDigits (n / 10) with
        | nil => exact absurd e (dec_ne _)
        | cons x l => rw [e] at hb; simpa using hb
      have := ih (n / 10) (by omega) h2
      omega
theorem dv_dec (n : Nat) : dv (decDigits n) = n := by
  induction n using Nat.strongRecOn with
  | _ n ih =>
    rw [decDigits]
    split
    · rename_i h
      have := of48 h
      simp only [dv, List.foldl_cons, List.foldl_nil, this]
      omega
    · rename_i h
      have := of48 (n := n % 10) (by omega)
      rw [dv_snoc, ih (n / 10) (by omega), this]
      omega
theorem dec_long {n : Nat} (h : 1 < (decDigits n).length) : ¬ n < 10 := by
  intro h1
  rw [decDigits, dif_pos h1] at h
  simp at h
theorem dec_dv : ∀ (k : Nat) (l : List UInt8), l.length = k + 1 → (1 < l.length → l.head? ≠ some 48) → l.all dig = true → decDigits (dv l) = l := by
  intro k
  induction k with
  | zero =>
    intro l h1 _ h3
    match l, h1 with
    | [x], _ =>
      simp [dig] at h3
      have e : dv [x] = x.toNat - 48 := by simp [dv]
      rw [e, decDigits, dif_pos (by omega)]
      congr 1
      apply UInt8.toNat_inj.1
      rw [UInt8.toNat_ofNat']
      omega
  | succ k ih =>
    intro l h1 h2 h3
    obtain ⟨m, x, rfl⟩ : ∃ m x, l = m ++ [x] := ⟨l.dropLast, l.getLast (by intro e; simp [e] at h1), (List.dropLast_concat_getLast _).symm⟩
    have hm : m.length = k + 1 := by simp at h1; omega
    have hx : dig x = true := List.all_eq_true.1 h3 x (by simp)
    have hx' : 48 ≤ x.toNat ∧ x.toNat ≤ 57 := by simpa [dig] using hx
    have hd : m.all dig = true := by
      rw [List.all_append, Bool.and_eq_true] at h3
      exact h3.1
    have hh : m.head? ≠ some 48 := by
      have := h2 (by simp; omega)
      cases m with
      | nil => simp at hm
      | cons y m => simpa using this
    have hi := ih m hm (fun _ => hh) hd
    have h0 : dv m ≠ 0 := by
      intro e
      rw [e] at hi
      apply hh
      rw [← hi, decDigits, dif_pos (by omega)]
      rfl
    rw [dv_snoc, decDigits, dif_neg (by omega), show (10 * dv m + (x.toNat - 48)) / 10 = dv m by omega, hi]
    congr 2
    apply UInt8.toNat_inj.1
    rw [UInt8.toNat_ofNat']
    omega
theorem num_iff {K : Nat} {l : List UInt8} {n : Nat} : num K l = some n ↔ decDigits n = l ∧ l.length ≤ K := by
  unfold num
  constructor
  · intro h
    split at h
    · rename_i hc
      simp only [Bool.and_eq_true, decide_eq_true_eq, Bool.not_eq_true', Bool.and_eq_false_iff, decide_eq_false_iff_not] at hc
      obtain ⟨⟨h1, h2⟩, h3, h4⟩ := hc
      cases h
      refine ⟨dec_dv (l.length - 1) l (by omega) (fun h => ?_) h4, h2⟩
      rcases h3 with h3 | h3
      · exact h3
      · omega
    · cases h
  · rintro ⟨rfl, h2⟩
    rw [if_pos, dv_dec]
    simp only [Bool.and_eq_true, decide_eq_true_eq, Bool.not_eq_true', Bool.and_eq_false_iff, decide_eq_false_iff_not]
    refine ⟨⟨?_, h2⟩, ?_, List.all_eq_true.2 (dec_dig n)⟩
    · cases e : decDigits n with
      | nil => exact absurd e (dec_ne n)
      | cons => simp
    · by_cases h : 1 < (decDigits n).length
      · left
        intro e
        have := dec_head n e
        exact dec_long h (by omega)
      · exact .inr h

/-- The pieces of a text between its bytes c. -/
def spl (c : UInt8) : List UInt8 → List (List UInt8)
  | [] => [[]]
  | x :: l => if x = c then [] :: spl c l else match spl c l with
    | [] => [[x]]
    | h :: t => (x :: h) :: t
/-- Texts put together with c between. -/
def jn (c : UInt8) : List (List UInt8) → List UInt8
  | [] => []
  | [p] => p
  | p :: q :: r => p ++ c :: jn c (q :: r)
theorem spl_ne (c : UInt8) : ∀ l, spl c l ≠ []
  | [] => by simp [spl]
  | x :: l => by
    rw [spl]
    split
    · simp
    · split <;> simp
theorem jn_cons (c : UInt8) (p : List UInt8) {P : List (List UInt8)} (h : P ≠ []) : jn c (p :: P) = p ++ c :: jn c P := by
  cases P with
  | nil => exact absurd rfl h
  | cons => rfl
theorem jn_spl (c : UInt8) : ∀ l, jn c (spl c l) = l
  | [] => rfl
  | x :: l => by
    rw [spl]
    split
    · rename_i h
      rw [jn_cons c [] (spl_ne c l), jn_spl c l, h]
      rfl
    · have h1 := jn_spl c l
      split
      · rename_i e; exact absurd e (spl_ne c l)
      · rename_i y t e
        rw [e] at h1
        cases t with
        | nil => simp [jn] at h1 ⊢; exact h1
        | cons z t => simp [jn] at h1 ⊢; exact h1
theorem spl_free (c : UInt8) : ∀ l, ∀ p ∈ spl c l, c ∉ p
  | [], p, hp => by simp [spl] at hp; subst hp; simp
  | x :: l, p, hp => by
    have ih := spl_free c l
    rw [spl] at hp
    split at hp
    · rcases List.mem_cons.1 hp with rfl | hp
      · simp
      · exact ih p hp
    · rename_i hx
      split at hp
      · rename_i e; exact absurd e (spl_ne c l)
      · rename_i y t e
        rcases List.mem_cons.1 hp with rfl | hp
        · have := ih y (by rw [e]; simp)
          simp [Ne.symm hx, this]
        · exact ih p (by rw [e]; simp [hp])
theorem spl_one (c : UInt8) : ∀ (p : List UInt8), c ∉ p → spl c p = [p]
  | [], _ => rfl
  | x :: p, h => by
    have hx : ¬ x = c := fun e => h (by simp [e])
    rw [spl, if_neg hx, spl_one c p (fun e => h (by simp [e]))]
theorem spl_cons (c : UInt8) : ∀ (p l : List UInt8), c ∉ p → spl c (p ++ c :: l) = p :: spl c l
  | [], l, _ => by rw [List.nil_append, spl, if_pos rfl]
  | x :: p, l, h => by
    have hx : ¬ x = c := fun e => h (by simp [e])
    rw [List.cons_append, spl, if_neg hx, spl_cons c p l (fun e => h (by simp [e]))]
theorem spl_jn (c : UInt8) : ∀ (P : List (List UInt8)), P ≠ [] → (∀ p ∈ P, c ∉ p) → spl c (jn c P) = P
  | [], h, _ => absurd rfl h
  | [p], _, h => spl_one c p (h p (by simp))
  | p :: q :: r, _, h => by
    rw [jn, spl_cons c p _ (h p (by simp)), spl_jn c (q :: r) (by simp) (fun x hx => h x (by simp [hx]))]
theorem spl_snoc (c x : UInt8) : ∀ (l : List UInt8) (P : List (List UInt8)) (p : List UInt8), spl c l = P ++ [p] → spl c (l ++ [x]) = if x = c then P ++ [p, []] else P ++ [p ++ [x]] := by
  intro l P p h
  have hl : l = jn c (P ++ [p]) := by rw [← h, jn_spl]
  have hf : ∀ q ∈ P ++ [p], c ∉ q := fun q hq => spl_free c l q (by rw [h]; exact hq)
  have e1 : ∀ (P : List (List UInt8)) (p : List UInt8) (y : List UInt8), jn c (P ++ [p]) ++ y = jn c (P ++ [p ++ y]) := by
    intro P
    induction P with
    | nil => intro p y; rfl
    | cons q P ih => intro p y; rw [List.cons_append, List.cons_append, jn_cons c q (by simp), jn_cons c q (by simp), ← ih p y]; simp
  have e2 : ∀ (P : List (List UInt8)) (p : List UInt8), jn c (P ++ [p]) ++ [c] = jn c (P ++ [p, []]) := by
    intro P
    induction P with
    | nil => intro p; rfl
    | cons q P ih => intro p; rw [List.cons_append, List.cons_append, jn_cons c q (by simp), jn_cons c q (by simp), ← ih p]; simp
  split
  · rename_i hx
    subst hx
    rw [hl, e2]
    exact spl_jn _ _ (by simp) (fun q hq => by
      rcases List.mem_append.1 hq with hq | hq
      · exact hf q (by simp [hq])
      · simp only [List.mem_cons, List.not_mem_nil, or_false] at hq
        rcases hq with rfl | rfl
        · exact hf q (by simp)
        · simp)
  · rename_i hx
    rw [hl, e1]
    exact spl_jn _ _ (by simp) (fun q hq => by
      rcases List.mem_append.1 hq with hq | hq
      · exact hf q (by simp [hq])
      · simp only [List.mem_singleton] at hq
        subst hq
        have := hf p (by simp)
        simp [this, Ne.symm hx])

/-- The eighths of a text, numerals of at most K digits. -/
def ptR (K : Nat) (l : List UInt8) : Option Nat := match spl 43 l with
  | [a] => (num K a).map (8 * ·)
  | [a, b] => match num K a, num K b with
    | some n, some k => if 1 ≤ k ∧ k ≤ 7 then some (8 * n + k) else none
    | _, _ => none
  | _ => none
/-- The same number as the program's texts write it. -/
def ptN (v : Nat) : List UInt8 := if v % 8 = 0 then decDigits (v / 8) else decDigits (v / 8) ++ 43 :: decDigits (v % 8)
theorem ptT_nat (v : Nat) : ptT (v : Int) = ptN v := by
  have e1 : (v : Int) / 8 = ((v / 8 : Nat) : Int) := by omega
  have e2 : (v : Int) % 8 = ((v % 8 : Nat) : Int) := by omega
  rw [ptT, ptN, e1, e2, itoa_nat, itoa_nat]
  by_cases h : v % 8 = 0
  · rw [if_pos h, if_pos (by omega)]
  · rw [if_neg h, if_neg (by omega)]
theorem free_of_dig {c : UInt8} {l : List UInt8} (h : ∀ b ∈ l, dig b = true) (hc : dig c = false) : c ∉ l := fun e => by
  have := h c e
  rw [hc] at this
  cases this
theorem dec_free {c : UInt8} (hc : dig c = false) (n : Nat) : c ∉ decDigits n := free_of_dig (dec_dig n) hc
theorem dec_small {n : Nat} (h : n < 10) : decDigits n = [UInt8.ofNat (48 + n)] := by rw [decDigits, dif_pos h]
theorem ptR_iff {K : Nat} (hK : 1 ≤ K) {l : List UInt8} {v : Nat} : ptR K l = some v ↔ ptN v = l ∧ (decDigits (v / 8)).length ≤ K := by
  constructor
  · intro h
    have hj := jn_spl 43 l
    unfold ptR at h
    split at h
    · rename_i a ea
      rw [ea] at hj
      simp only [jn] at hj
      subst hj
      obtain ⟨n, hn, rfl⟩ := Option.map_eq_some_iff.1 h
      obtain ⟨e1, e2⟩ := num_iff.1 hn
      have e3 : 8 * n / 8 = n := by omega
      have e4 : 8 * n % 8 = 0 := by omega
      rw [ptN, if_pos e4, e3]
      exact ⟨e1, by rw [e1]; exact e2⟩
    · rename_i a b eb
      rw [eb] at hj
      simp only [jn] at hj
      subst hj
      split at h
      · rename_i n k hn hk
        split at h
        · rename_i hr
          cases h
          obtain ⟨e1, e2⟩ := num_iff.1 hn
          obtain ⟨e5, e6⟩ := num_iff.1 hk
          have e3 : (8 * n + k) / 8 = n := by omega
          have e4 : (8 * n + k) % 8 = k := by omega
          rw [ptN, e3, e4, if_neg (by omega), e1, e5]
          exact ⟨rfl, e2⟩
        · cases h
      · cases h
    · cases h
  · rintro ⟨rfl, h⟩
    have d43 : dig 43 = false := by decide
    unfold ptR ptN
    by_cases h0 : v % 8 = 0
    · rw [if_pos h0, spl_one _ _ (dec_free d43 _)]
      have h1 := num_iff.2 ⟨rfl, h⟩
      simp only [h1, Option.map_some]
      congr 1
      omega
    · rw [if_neg h0, spl_cons _ _ _ (dec_free d43 _), spl_one _ _ (dec_free d43 _)]
      have h1 := num_iff.2 ⟨rfl, h⟩
      have h2 : num K (decDigits (v % 8)) = some (v % 8) := num_iff.2 ⟨rfl, by rw [dec_small (by omega)]; simpa using hK⟩
      simp only [h1, h2]
      rw [if_pos (by omega)]
      congr 1
      omega
theorem ptN_chars (v : Nat) : ∀ b ∈ ptN v, dig b = true ∨ b = 43 := by
  intro b hb
  unfold ptN at hb
  split at hb
  · exact .inl (dec_dig _ b hb)
  · rcases List.mem_append.1 hb with hb | hb
    · exact .inl (dec_dig _ b hb)
    · rcases List.mem_cons.1 hb with rfl | hb
      · exact .inr rfl
      · exact .inl (dec_dig _ b hb)
theorem ptN_free {c : UInt8} (hc : dig c = false) (h43 : c ≠ 43) (v : Nat) : c ∉ ptN v := fun e => by
  rcases ptN_chars v c e with h | h
  · rw [hc] at h; cases h
  · exact h43 h
theorem spT_nat {s : Sp} (h : isSp s = true) : spT s = ptN s.x.toNat ++ 44 :: ptN s.y.toNat ∧ s.x = (s.x.toNat : Int) ∧ s.y = (s.y.toNat : Int) := by
  have h1 := isSp_iff.1 h
  have ex : s.x = (s.x.toNat : Int) := by omega
  have ey : s.y = (s.y.toNat : Int) := by omega
  refine ⟨?_, ex, ey⟩
  rw [spT]
  conv => lhs; rw [ex, ey]
  rw [ptT_nat, ptT_nat]
theorem spT_free {c : UInt8} (hc : dig c = false) (h43 : c ≠ 43) (h44 : c ≠ 44) {s : Sp} (h : isSp s = true) : c ∉ spT s := by
  rw [(spT_nat h).1]
  intro e
  rcases List.mem_append.1 e with e | e
  · exact ptN_free hc h43 _ e
  · rcases List.mem_cons.1 e with e | e
    · exact h44 e
    · exact ptN_free hc h43 _ e
theorem dec_le3 {n : Nat} (h : n ≤ 160) : (decDigits n).length ≤ 3 := by
  by_cases h1 : n < 10
  · rw [dec_small h1]; simp
  · by_cases h2 : n / 10 < 10
    · rw [decDigits, dif_neg h1, dec_small h2]; simp
    · rw [decDigits, dif_neg h1, decDigits, dif_neg h2, dec_small (by omega)]; simp
/-- What reading the two parts of a spot gives. -/
theorem sp_read {K : Nat} (hK : 3 ≤ K) {l a b : List UInt8} (hl : l = a ++ 44 :: b) (ha : 44 ∉ a) {s : Sp} (hs : isSp s = true) : spT s = l ↔ ptR K a = some s.x.toNat ∧ ptR K b = some s.y.toNat := by
  obtain ⟨e1, e2, e3⟩ := spT_nat hs
  have h1 := isSp_iff.1 hs
  have d44 : dig 44 = false := by decide
  rw [ptR_iff (by omega), ptR_iff (by omega), e1, hl]
  constructor
  · intro e
    have e4 := congrArg (spl 44) e
    rw [spl_cons _ _ _ (ptN_free d44 (by decide) _), spl_cons _ _ _ ha, spl_one _ _ (ptN_free d44 (by decide) _)] at e4
    obtain ⟨e5, e6⟩ := List.cons.inj e4
    have e7 : b = ptN s.y.toNat := by rw [← jn_spl 44 b, ← e6]; rfl
    exact ⟨⟨e5, Nat.le_trans (dec_le3 (by omega)) hK⟩, e7.symm, Nat.le_trans (dec_le3 (by omega)) hK⟩
  · rintro ⟨⟨e4, -⟩, e5, -⟩
    rw [e4, e5]
/-- The pieces of a spot's text. -/
theorem spT_spl {s : Sp} (hs : isSp s = true) : spl 44 (spT s) = [ptN s.x.toNat, ptN s.y.toNat] := by
  have d44 : dig 44 = false := by decide
  rw [(spT_nat hs).1, spl_cons _ _ _ (ptN_free d44 (by decide) _), spl_one _ _ (ptN_free d44 (by decide) _)]

/-- The lines of a sheet's text. -/
def hdL (p : Int) (s : Sp) : List UInt8 := [112, 101, 114, 102, 111, 114, 109, 101, 114] ++ 32 :: (Lib.itoa p ++ 32 :: spT s)
def rwL (r : Rw) : List UInt8 := Lib.itoa r.c ++ 32 :: spT r.t
theorem shT_lines (p : Int) (s : Sp) (L : List Rw) : shT p s L = jn 10 (hdL p s :: (L.map rwL ++ [[]])) := by
  have e1 : hdT p s = hdL p s ++ [10] := by simp [hdT, hdL]
  have e2 : ∀ L : List Rw, L.flatMap rwT = jn 10 (L.map rwL ++ [[]]) := by
    intro L
    induction L with
    | nil => rfl
    | cons r L ih => rw [List.flatMap_cons, List.map_cons, List.cons_append, jn_cons _ _ (by simp), ih]; simp [rwT, rwL]
  rw [shT, e1, e2, jn_cons _ _ (by simp)]
  simp
theorem itoa_dec {n : Int} (h : 0 ≤ n) : Lib.itoa n = decDigits n.toNat := by
  obtain ⟨k, rfl⟩ := Int.eq_ofNat_of_zero_le h
  rw [itoa_nat]
  simp
theorem hdL_free {p : Int} {s : Sp} (hp : inR p 0 11 = true) (hs : isSp s = true) : 10 ∉ hdL p s := by
  have h1 := inR_iff.1 hp
  rw [hdL, itoa_dec (by omega)]
  intro e
  rcases List.mem_append.1 e with e | e
  · revert e; decide
  · rcases List.mem_cons.1 e with e | e
    · revert e; decide
    · rcases List.mem_append.1 e with e | e
      · exact dec_free (by decide) _ e
      · rcases List.mem_cons.1 e with e | e
        · revert e; decide
        · exact spT_free (by decide) (by decide) (by decide) hs e
theorem rwL_free {r : Rw} (hr : isRw r = true) : 10 ∉ rwL r := by
  have h1 := isRw_iff.1 hr
  rw [rwL, itoa_dec (by omega)]
  intro e
  rcases List.mem_append.1 e with e | e
  · exact dec_free (by decide) _ e
  · rcases List.mem_cons.1 e with e | e
    · revert e; decide
    · exact spT_free (by decide) (by decide) (by decide) h1.2 e
theorem hdL_spl {p : Int} {s : Sp} (hp : inR p 0 11 = true) (hs : isSp s = true) : spl 32 (hdL p s) = [[112, 101, 114, 102, 111, 114, 109, 101, 114], Lib.itoa p, spT s] := by
  have h1 := inR_iff.1 hp
  rw [hdL, spl_cons _ _ _ (by decide), spl_cons, spl_one]
  · exact spT_free (by decide) (by decide) (by decide) hs
  · rw [itoa_dec (by omega)]
    exact dec_free (by decide) _
theorem rwL_spl {r : Rw} (hr : isRw r = true) : spl 32 (rwL r) = [Lib.itoa r.c, spT r.t] := by
  have h1 := isRw_iff.1 hr
  rw [rwL, spl_cons, spl_one]
  · exact spT_free (by decide) (by decide) (by decide) h1.2
  · rw [itoa_dec (by omega)]
    exact dec_free (by decide) _
theorem shT_spl {p : Int} {s : Sp} {L : List Rw} (h : shOk p s L = true) : spl 10 (shT p s L) = hdL p s :: (L.map rwL ++ [[]]) := by
  obtain ⟨h1, h2, h3, h4⟩ := shOk_iff.1 h
  rw [shT_lines]
  refine spl_jn _ _ (by simp) (fun q hq => ?_)
  rcases List.mem_cons.1 hq with rfl | hq
  · exact hdL_free h1 h2
  · rcases List.mem_append.1 hq with hq | hq
    · obtain ⟨r, hr, rfl⟩ := List.mem_map.1 hq
      exact rwL_free (List.all_eq_true.1 h4 r hr)
    · simp only [List.mem_singleton] at hq
      subst hq
      simp
theorem spT_inj {a b : Sp} (ha : isSp a = true) (hb : isSp b = true) (h : spT a = spT b) : a = b := by
  obtain ⟨e1, ax, ay⟩ := spT_nat ha
  obtain ⟨e2, bx, by_⟩ := spT_nat hb
  have d44 : dig 44 = false := by decide
  have h1 := (sp_read (K := 3) (by omega) e1 (ptN_free d44 (by decide) _) ha).1 rfl
  have h2 := (sp_read (K := 3) (by omega) e1 (ptN_free d44 (by decide) _) hb).1 h.symm
  have h3 := Option.some.inj (h1.1.symm.trans h2.1)
  have h4 := Option.some.inj (h1.2.symm.trans h2.2)
  cases a
  cases b
  simp only [Sp.mk.injEq] at *
  omega
end Go.Proofs.YtdmgffcabjpihaaGreatDoor
