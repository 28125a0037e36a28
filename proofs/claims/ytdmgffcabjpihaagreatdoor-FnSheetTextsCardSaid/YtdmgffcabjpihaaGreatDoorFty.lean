/-
  What the law of sheets' texts wants to know of a sheet: plain.
-/
import Derived.Test.YtdmgffcabjpihaaGreatDoorStq
import Derived.Test.YtdmgffcabjpihaaGreatDoorPsf
import Derived.Test.YtdmgffcabjpihaaGreatDoorSpd
import Derived.Test.YtdmgffcabjpihaaGreatDoorSti
import Derived.Test.YtdmgffcabjpihaaGreatDoorLws
namespace Go.Proofs.YtdmgffcabjpihaaGreatDoor
open Go.RowKit

/-- A text of a sheet is read back. -/
theorem RetPr.of {w w' : World} {t : List UInt8} {e : Ending} (h : RetPr w t e w') {p : Int} {s : Sp} {L : List Rw} (hok : shOk p s L = true) (ht : shT p s L = t) :
    ∃ A' c', e = .returned (.tuple #[.agg #[.int .i64 p, .int .i64 s.x, .int .i64 s.y, .slice A' L.length c'], .bool true]) ∧ w'.ownsRow w.heap.size 46 3 (.slice A' L.length c') L.length (rows L) ∧ Below w.heap.size w w' := by
  obtain ⟨r, A', c', p', s', L', hr, hp, rfl, ho, hb⟩ := h
  have e1 := (hr p s L).2 ⟨hok, ht⟩
  subst e1
  obtain ⟨rfl, hp2⟩ := Prod.mk.inj hp
  obtain ⟨h3, h4⟩ := Prod.mk.inj hp2
  have h5 : s' = s := h3
  have h6 : L' = L := h4
  subst h5 h6
  exact ⟨A', c', rfl, ho, hb⟩
theorem sumr_take : ∀ {L : List Rw} {k : Nat} {r : Rw} (_ : L[k]? = some r), sumr (L.take (k + 1)) = sumr (L.take k) + r.c
  | [], _, _, h => by simp at h
  | a :: L, 0, r, h => by simp at h; subst h; simp [sumr]
  | a :: L, k + 1, r, h => by
    have := sumr_take (L := L) (k := k) (r := r) (by simpa using h)
    rw [List.take_succ_cons, List.take_succ_cons, sumr, sumr, this]
    omega
theorem sumr_bd {L : List Rw} (h : ∀ r ∈ L, isRw r = true) : ∀ k : Nat, 0 ≤ sumr (L.take k) ∧ sumr (L.take k) ≤ 64 * (k : Int) := by
  intro k
  induction k with
  | zero => exact ⟨by simp [sumr], by simp [sumr]⟩
  | succ k ih =>
    by_cases hk : k < L.length
    · obtain ⟨r, hr⟩ := some_of_lt hk
      rw [sumr_take hr]
      have h1 := h r (List.mem_of_getElem? hr)
      simp [isRw, inR] at h1
      omega
    · rw [List.take_of_length_le (by omega)]
      rw [List.take_of_length_le (by omega)] at ih
      omega
structure FT (p : Int) (s : Sp) (L : List Rw) (P2 : Int) (S2 : Sp) (V : List Rw) (MV : List Mv) (T : List UInt8) (lo : Int) : Prop where
  P : P2 = p
  S : S2 = s
  ld : ldV P2 S2 V = ldV p s L
  ok2 : shOk P2 S2 V = true
  sa : ∀ (i : Nat) (r : Rw), L[i]? = some r → saOk P2 S2 V (sumr (L.take (i + 1))) = true ∧ saV P2 S2 V (sumr (L.take (i + 1))) = r.t
  su : sumr V = sumr L
  ml : MV.length = L.length
  vl : V.length ≤ L.length
  l8 : L.length ≤ 8
  rl : ∀ r ∈ L, isRw r = true
  rv : ∀ r ∈ V, isRw r = true
  mv : ∀ (k : Nat) (m : Mv), MV[k]? = some m → isMv m = true
  ch : ∀ (i : Nat) (a b : Mv), MV[i]? = some a → MV[i + 1]? = some b → a.t = b.f
  tx : shT p s L = T
  tl : T.length ≤ 1048576
  lo : ∀ (k : Nat) (m : Mv), MV[k]? = some m → ∃ (j : Nat) (n : Mv), lo = (j : Int) ∧ j < L.length ∧ MV[j]? = some n ∧ sq m.f m.t ≤ sq n.f n.t ∧ (sq m.f m.t = sq n.f n.t → j ≤ k)
theorem ft_of {p : Int} {s : Sp} {L : List Rw} {P2 : Int} {S2 : Sp} {V : List Rw} {MV : List Mv} {T : List UInt8} {lo : Int} (hok : shOk p s L = true) (h1 : txV p s L = T) (h2 : moV p s L = MV) (h3 : ssP p s L = P2) (h4 : ssS p s L = S2) (h5 : ssV p s L = V) (h6 : loV p s L = lo) : FT p s L P2 S2 V MV T lo := by
  have e3 : P2 = p := by rw [← h3]; simp [ssP, hok]
  have e4 : S2 = s := by rw [← h4]; simp [ssS, hok]
  have e2 : MV = mvs s L := by rw [← h2]; simp [moV, hok]
  have e1 : T = shT p s L := by rw [← h1]; simp [txV, hok]
  subst e3 e4 e2 e1 h5
  have ho := shOk_iff.1 hok
  have h8 := ho.2.2.1
  have ho2 := shOk_iff.1 (ss_ok hok)
  refine ⟨rfl, rfl, ss_ld hok, ss_ok hok, fun i r hr => ss_after hok hr, ss_sum hok, mvs_len _ _, ss_len hok, h8, fun r hr => List.all_eq_true.1 ho.2.2.2 r hr, fun r hr => List.all_eq_true.1 ho2.2.2.2 r hr, mvs_isMv hok, fun i a b => mvs_chain, rfl, by have := shT_len hok; omega, fun k m hm => ?_⟩
  have hk : k < L.length := by rw [← mvs_len S2 L]; exact (List.getElem?_eq_some_iff.1 hm).1
  have hml : (msq S2 L).length = L.length := by simp [msq, mvs_len]
  have hlm := lo_max (T := msq S2 L) (fun x hx => by
    simp only [msq, List.mem_map] at hx
    obtain ⟨a, _, rfl⟩ := hx
    unfold sq
    have hn : ∀ d : Int, 0 ≤ d * d := fun d => by rcases Int.le_total 0 d with h | h; exact Int.mul_nonneg h h; exact Int.mul_nonneg_of_nonpos_of_nonpos h h
    have h1 := hn (a.f.x - a.t.x)
    have h2 := hn (a.f.y - a.t.y)
    omega) L.length (by omega) (by omega)
  obtain ⟨g1, g2, g3, g4⟩ := hlm
  have hlo : lo = (((loTo (msq S2 L) L.length).1 : Nat) : Int) := by
    rw [← h6]
    simp [loV, loOk, hok, show 0 < L.length by omega]
  obtain ⟨n, hn⟩ := some_of_lt (L := mvs S2 L) (k := (loTo (msq S2 L) L.length).1) (by rw [mvs_len]; exact g1)
  have q1 := msq_at hm
  have q2 := msq_at hn
  have d1 : (msq S2 L).getD k 0 = sq m.f m.t := by simp [q1]
  have d2 : (msq S2 L).getD (loTo (msq S2 L) L.length).1 0 = sq n.f n.t := by simp [q2]
  have g5 := g4 k hk
  rw [d1] at g5
  rw [d2] at g2
  exact ⟨_, n, hlo, g1, hn, by omega, fun e => g5.2 (by omega)⟩
end Go.Proofs.YtdmgffcabjpihaaGreatDoor
