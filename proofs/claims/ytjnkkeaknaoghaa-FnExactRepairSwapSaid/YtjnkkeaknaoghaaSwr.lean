/-
  Contracts: the first swap that repairs a transition.
-/
import Derived.Test.YtjnkkeaknaoghaaSwq
import Derived.Test.YtjnkkeaknaoghaaDek
import Derived.Deep.RegionHeld3
namespace Go.Proofs.Ytjnkkeaknaoghaa
open Go.RowKit Go.Sort Go.Lib

theorem upon_make_ {P : Program} (w : World) {o : Oper} {a : Act} {K : Act → World → Prop} {Q : Exit → Act → World → Prop}
    (t e : TypeId) (i : TypeInfo) (z : Value) (size : Nat) (h1 : P.underlying t = some (.slice e)) (h2 : P.info? e = some i) (h3 : i.zero = some z) (h4 : i.size = size)
    (k : IntKind) (n : Nat) (b2 : i.bytes * n ≤ 281474976710656) (b3 : n ≤ maxLen)
    (hK : ∀ w', w'.ownsRow w.heap.size e size (.slice (some ⟨w.heap.size, 0, none⟩) n n) n (madeCells z.cells (n * size)).toList → w.grownBy w' none → K (a.put o.dst (.slice (some ⟨w.heap.size, 0, none⟩) n n)) w') :
    Oper.upon P o a K Q ((Sem.run P (Instr.makeSlice t (.int k (n : Int)) (.int k (n : Int))) w).andThen fun a w' => Result.ok (Next.value a) w') := by
  obtain ⟨w', hrun, r1, r2⟩ := run_make_full (P := P) w w.heap.size t e i z size h1 h2 h3 h4 k k n b2 b3 (Nat.le_refl _)
  rw [hrun]
  exact hK w' r1 r2
def zer (n : Nat) : List Int := List.replicate n 0
theorem zer_len (n : Nat) : (zer n).length = n := by simp [zer]
theorem made_zer (n : Nat) : (madeCells #[Value.int .i64 0] (n * 1)).toList = ints (zer n) := made_flat (fun n : Int => [Value.int .i64 n]) 1 0 (by omega) (fun _ => rfl) n
theorem made_row_ {w : World} {base : Nat} {e : TypeId} {g' : Nat} (g : Nat) {n : Nat} (h : w.ownsRow base e 1 (.slice (some ⟨g', 0, none⟩) n n) n (madeCells (Value.int .i64 0).cells (n * 1)).toList) (hg : g' = g) : w.ownsRow base e 1 (.slice (some ⟨g, 0, none⟩) n n) n (ints (zer n)) := by
  subst hg
  rw [← made_zer]
  exact h
def nnB (F T : List Sp) (n : Int) (P : List Int) (L : Int) (i k : Nat) : Bool := decide ((clV F T n (swp P i k) (zer F.length) L).length = 0)
def rowF (nn : Nat → Nat → Bool) (N i : Nat) : Nat → Option Nat
  | 0 => none
  | f + 1 => if nn i (N - (f + 1)) then some (N - (f + 1)) else rowF nn N i f
def allF (nn : Nat → Nat → Bool) (N : Nat) : Nat → Option (Nat × Nat)
  | 0 => none
  | f + 1 => match rowF nn N (N - (f + 1)) (f) with
    | some k => some (N - (f + 1), k)
    | none => allF nn N f
def srV (F T : List Sp) (n : Int) (P : List Int) (L : Int) : Option (Nat × Nat) := allF (nnB F T n P L) F.length F.length
theorem rowF_at {nn : Nat → Nat → Bool} {N i k : Nat} (h : k < N) : rowF nn N i (N - k) = if nn i k then some k else rowF nn N i (N - (k + 1)) := by
  have e : N - k = (N - (k + 1)) + 1 := by omega
  rw [e, rowF]
  have e2 : N - ((N - (k + 1)) + 1) = k := by omega
  rw [e2]
theorem allF_at {nn : Nat → Nat → Bool} {N i : Nat} (h : i < N) : allF nn N (N - i) = match rowF nn N i (N - (i + 1)) with
    | some k => some (i, k)
    | none => allF nn N (N - (i + 1)) := by
  have e : N - i = (N - (i + 1)) + 1 := by omega
  rw [e, allF]
  have e2 : N - ((N - (i + 1)) + 1) = i := by omega
  rw [e2]
theorem row_yes {nn : Nat → Nat → Bool} {N i k : Nat} {r : Option (Nat × Nat)} {V : Option (Nat × Nat)} (hk : k < N) (h : V = match rowF nn N i (N - k) with | some k => some (i, k) | none => r) (h2 : nn i k = true) : V = some (i, k) := by
  rw [h, rowF_at hk, if_pos h2]
theorem row_no {nn : Nat → Nat → Bool} {N i k : Nat} {r : Option (Nat × Nat)} {V : Option (Nat × Nat)} (hk : k < N) (h : V = match rowF nn N i (N - k) with | some k => some (i, k) | none => r) (h2 : nn i k = false) : V = match rowF nn N i (N - (k + 1)) with | some k => some (i, k) | none => r := by
  rw [h, rowF_at hk, if_neg (by simp [h2])]
theorem swp_dl {F T : List Sp} {n : Int} {P : List Int} (h : rpOk F T n P = true) {i k : Nat} (hi : i < P.length) (hk : k < P.length) : dlOk F T n (swp P i k) (zer F.length) = true := by
  obtain ⟨h1, h2, h3⟩ := rpOk_iff.1 h
  obtain ⟨h4, h5, h6, h7, h8⟩ := trOk_iff.1 h1
  exact dlOk_iff.2 ⟨rpOk_iff.2 ⟨trOk_iff.2 ⟨h4, h5, h6, h7, swp_ok h8 hi hk⟩, h2, h3⟩, zer_len _, by simp [zer, inR]⟩
theorem swp_lens {F T : List Sp} {n : Int} {P : List Int} (h : rpOk F T n P = true) : 0 < F.length ∧ 0 < T.length ∧ P.length = F.length ∧ F.length ≤ 6 ∧ T.length = F.length := by
  obtain ⟨h1, h2, h3⟩ := rpOk_iff.1 h
  obtain ⟨h4, h5, h6, h7, h8⟩ := trOk_iff.1 h1
  have := (plOk_iff.1 h8).2
  have := (chOk_iff.1 h4).1.1
  omega
theorem pairsZ_any (A : Option Addr) (c : Nat) (F : List Sp) (B : Option Addr) (d : Nat) (T : List Sp) (n : Int) (C : Option Addr) (f : Nat) (P : List Int) (E : Option Addr) (N : Nat) (L : Int) (w : World) (hf : Mem w A (spots F)) (ht : Mem w B (spots T)) (hp : Mem w C (ints P)) (lf : F.length ≤ 1048576) (lt : T.length ≤ 1048576) (lp : P.length ≤ 1048576) (hfc : F.length ≤ c) (htc : T.length ≤ d) (hpc : P.length ≤ f) (hd : Mem w E (ints (zer N))) (hok : dlOk F T n P (zer N) = true) (L0 : 0 ≤ L) (L1 : L ≤ 80) : Calls Try.prog 77 #[.agg #[.slice A F.length c, .slice B T.length d, .int .i64 n, .slice C P.length f], .slice E N N, .int .i64 L] w fun e w' => ∃ A' c', e = .returned (.slice A' (clV F T n P (zer N) L).length c') ∧ Below w.heap.size w w' := by
  have hN : N ≤ 6 := by
    have h1 := dlOk_iff.1 hok
    have h2 := rpOk_iff.1 h1.1
    rw [zer_len] at h1
    omega
  have h := delayedPairs_any A c F B d T n C f P E N (zer N) L w hf ht hp lf lt lp hfc htc hpc hd (by rw [zer_len]; omega) hok L0 L1
  rw [zer_len] at h
  exact h.mono (by rintro e w' ⟨A', c', vals, rfl, _, _, hb⟩; exact ⟨A', c', rfl, hb⟩)
theorem closeZ_any (A : Option Addr) (c : Nat) (F : List Sp) (B : Option Addr) (d : Nat) (T : List Sp) (n : Int) (C : Option Addr) (f : Nat) (P : List Int) (E : Option Addr) (N : Nat) (L : Int) (w : World) (hf : Mem w A (spots F)) (ht : Mem w B (spots T)) (hp : Mem w C (ints P)) (lf : F.length ≤ 1048576) (lt : T.length ≤ 1048576) (lp : P.length ≤ 1048576) (hfc : F.length ≤ c) (htc : T.length ≤ d) (hpc : P.length ≤ f) (hd : Mem w E (ints (zer N))) (hok : dlOk F T n P (zer N) = true) (L0 : 0 ≤ L) (L1 : L ≤ 80) : Calls Try.prog 75 #[.agg #[.slice A F.length c, .slice B T.length d, .int .i64 n, .slice C P.length f], .slice E N N, .int .i64 L] w fun e w' => ∃ A' c', e = .returned (.slice A' (clV F T n P (zer N) L).length c') ∧ Below w.heap.size w w' := by
  have hN : N ≤ 6 := by
    have h1 := dlOk_iff.1 hok
    have h2 := rpOk_iff.1 h1.1
    rw [zer_len] at h1
    omega
  have h := rpClose_any A c F B d T n C f P E N (zer N) L w hf ht hp lf lt lp hfc htc hpc hd (by rw [zer_len]; omega) hok L0 L1
  rw [zer_len] at h
  exact h.mono (by rintro e w' ⟨A', c', vals, rfl, _, _, hb⟩; exact ⟨A', c', rfl, hb⟩)
set_option maxRecDepth 100000 in
set_option maxHeartbeats 3200000 in
theorem needsNothing_any (A : Option Addr) (c : Nat) (F : List Sp) (B : Option Addr) (d : Nat) (T : List Sp) (n : Int) (C : Option Addr) (f : Nat) (P : List Int) (L : Int) (w : World) (hf : Mem w A (spots F)) (ht : Mem w B (spots T)) (hp : Mem w C (ints P)) (lf : F.length ≤ 1048576) (lt : T.length ≤ 1048576) (lp : P.length ≤ 1048576) (hfc : F.length ≤ c) (htc : T.length ≤ d) (hpc : P.length ≤ f) (hok : dlOk F T n P (zer F.length) = true) (L0 : 0 ≤ L) (L1 : L ≤ 80) : Calls Try.prog 115 #[.agg #[.slice A F.length c, .slice B T.length d, .int .i64 n, .slice C P.length f], .int .i64 L] w fun e w' => e = .returned (.bool (decide ((clV F T n P (zer F.length) L).length = 0))) ∧ Below w.heap.size w w' := by
  obtain ⟨i0, hi, hz0, hz1, hz2⟩ := info_parts info_int
  have hp6 : P.length ≤ 6 := by
    have h1 := dlOk_iff.1 hok
    have h2 := rpOk_iff.1 h1.1
    have h3 := plOk_iff.1 (trOk_iff.1 h2.1).2.2.2.2
    omega
  have hle : (clV F T n P (zer F.length) L).length ≤ 36 := Nat.le_trans (clTo_len _ _ _ hp6 _) (by omega)
  have hf1 : F.length ≤ 6 := (rpOk_iff.1 (dlOk_iff.1 hok).1).2.2
  have HOK := Lib.hid hok
  have HZL := Lib.hid (zer_len F.length)
  obtain ⟨N, hN⟩ : ∃ N, N = (clV F T n P (zer F.length) L).length := ⟨_, rfl⟩
  rw [← hN] at hle ⊢
  have HN := Lib.hid hN
  clear hN hok
  by_cases h0 : N = 0
  all_goals
    go_enter Try.func115, Try.ntmps115
    go_wp2
    go_region_held3 (fun w' => w'.cell? ⟨w.heap.size, 0, none⟩ = some (.slice A F.length c) ∧ w'.cell? ⟨w.heap.size, 1, none⟩ = some (.slice B T.length d) ∧ w'.cell? ⟨w.heap.size, 2, none⟩ = some (.int .i64 n) ∧ w'.cell? ⟨w.heap.size, 3, none⟩ = some (.slice C P.length f))
      (first | assumption | exact keep4 (by assumption) (by assumption) | (simp [go_sem, *]; done))
      (first
        | (refine upon_make_ _ 23 3 i0 (.int .i64 0) 1 Try.underlying23 hi hz0 hz1 _ F.length (by rw [hz2]; omega) (by unfold maxLen; omega) ?_; intro w3 ho3 hg3; have hq3 := grown_below hg3; replace ho3 := made_row_ (w.heap.size + 1) ho3 (by simp); have hz3 := hq3.size; (try simp at hz3); (try have hS3 := keep4 hq3 (by assumption)))
        | (go_at_call 77; (refine (pairsZ_any A c F B d T n C f P _ _ L _ (hf.below (by (repeat (first | exact Below.refl _ _ | assumption | (refine Below.alloc ?_ (by first | omega | (simp; done) | (simp; omega)) _) | (refine Below.setCell ?_ (by first | omega | (simp; done) | (simp; omega)) _) | (refine Below.drew ?_) | (refine Below.drewN ?_ _) | (refine Below.next (by assumption) ?_ (by first | omega | (simp; done) | (simp; omega))))))) (ht.below (by (repeat (first | exact Below.refl _ _ | assumption | (refine Below.alloc ?_ (by first | omega | (simp; done) | (simp; omega)) _) | (refine Below.setCell ?_ (by first | omega | (simp; done) | (simp; omega)) _) | (refine Below.drew ?_) | (refine Below.drewN ?_ _) | (refine Below.next (by assumption) ?_ (by first | omega | (simp; done) | (simp; omega))))))) (hp.below (by (repeat (first | exact Below.refl _ _ | assumption | (refine Below.alloc ?_ (by first | omega | (simp; done) | (simp; omega)) _) | (refine Below.setCell ?_ (by first | omega | (simp; done) | (simp; omega)) _) | (refine Below.drew ?_) | (refine Below.drewN ?_ _) | (refine Below.next (by assumption) ?_ (by first | omega | (simp; done) | (simp; omega))))))) lf lt lp hfc htc hpc (Mem.below (Mem.of_own ho3) (by (repeat (first | exact Below.refl _ _ | assumption | (refine Below.alloc ?_ (by first | omega | (simp; done) | (simp; omega)) _) | (refine Below.setCell ?_ (by first | omega | (simp; done) | (simp; omega)) _) | (refine Below.drew ?_) | (refine Below.drewN ?_ _) | (refine Below.next (by assumption) ?_ (by first | omega | (simp; done) | (simp; omega))))))) HOK.out L0 L1).mono ?_); rintro e w4 ⟨A3, c3, rfl, hq4⟩; rw [← HN.out]; have hz4 := hq4.size; (try simp at hz4); (try have hS4 := keep4 hq4 (by assumption))))
    go_wp2
    go_ret
    exact ⟨ret_bool (by simp [h0]), by (repeat (first | exact Below.refl _ _ | assumption | (refine Below.alloc ?_ (by first | omega | (simp; done) | (simp; omega)) _) | (refine Below.setCell ?_ (by first | omega | (simp; done) | (simp; omega)) _) | (refine Below.drew ?_) | (refine Below.drewN ?_ _) | (refine Below.next (by assumption) ?_ (by first | omega | (simp; done) | (simp; omega)))))⟩

def srA (v : Option (Nat × Nat)) (d : Int) : Int := v.elim d (fun x => (x.1 : Int))
def srB (v : Option (Nat × Nat)) (d : Int) : Int := v.elim d (fun x => (x.2 : Int))

set_option maxRecDepth 100000 in
set_option maxHeartbeats 6400000 in
theorem rpSwap_any (A : Option Addr) (c : Nat) (F : List Sp) (B : Option Addr) (d : Nat) (T : List Sp) (n : Int) (C : Option Addr) (f : Nat) (P : List Int) (L : Int) (w : World) (hf : Mem w A (spots F)) (ht : Mem w B (spots T)) (hp : Mem w C (ints P)) (lf : F.length ≤ 1048576) (lt : T.length ≤ 1048576) (lp : P.length ≤ 1048576) (hfc : F.length ≤ c) (htc : T.length ≤ d) (hpc : P.length ≤ f) (hok : rpOk F T n P = true) (L0 : 0 ≤ L) (L1 : L ≤ 80) : Calls Try.prog 79 #[.agg #[.slice A F.length c, .slice B T.length d, .int .i64 n, .slice C P.length f], .int .i64 L] w (fun e w' => e = .returned (.tuple #[.int .i64 (srA (srV F T n P L) (-1)), .int .i64 (srB (srV F T n P L) (-1))]) ∧ Below w.heap.size w w') := by
  obtain ⟨i0, hi, hz0, hz1, hz2⟩ := info_parts info_int
  have HLN := Lib.hid (swp_lens hok)
  have HOK := Lib.hid hok
  have hF6 : F.length ≤ 6 := HLN.out.2.2.2.1
  have HS0 : Hid (srV F T n P L = allF (nnB F T n P L) F.length (F.length - 0)) := Lib.hid rfl
  clear hok
  go_enter Try.func79, Try.ntmps79
  go_wp2_with (at_make; refine wpList_make_full _ rfl _ _ 23 rfl (w.heap.size + 1) 3 i0 (.int .i64 0) 1 Try.underlying23 hi hz0 hz1 _ _ _ _ F.length rfl rfl rfl rfl ?b2 ?b3 (by simp) ?_)
  case b2 => rw [hz2]; omega
  case b3 => unfold maxLen; omega
  intro w1 ho1 hg1
  have hq1 := grown_below hg1
  rw [show (madeCells #[Value.int .i64 0] F.length).toList = ints (zer F.length) from by have h := made_zer F.length; rwa [Nat.mul_one] at h] at ho1
  have HO1 := Lib.hid ho1
  have hb1 : Below w.heap.size w w1 := by (repeat (first | exact Below.refl _ _ | assumption | (refine Below.alloc ?_ (by first | omega | (simp; done) | (simp; omega)) _) | (refine Below.setCell ?_ (by first | omega | (simp; done) | (simp; omega)) _) | (refine Below.drew ?_) | (refine Below.drewN ?_ _) | (refine Below.next (by assumption) ?_ (by first | omega | (simp; done) | (simp; omega)))))
  have m0 : w1.cell? ⟨w.heap.size, 0, none⟩ = some (.slice A F.length c) := keep1 hq1 (by simp [go_sem])
  have m1 : w1.cell? ⟨w.heap.size, 1, none⟩ = some (.slice B T.length d) := keep1 hq1 (by simp [go_sem])
  have m2 : w1.cell? ⟨w.heap.size, 2, none⟩ = some (.int .i64 n) := keep1 hq1 (by simp [go_sem])
  have m3 : w1.cell? ⟨w.heap.size, 3, none⟩ = some (.slice C P.length f) := keep1 hq1 (by simp [go_sem])
  have gz1 : w.heap.size < w1.heap.size := World.block_lt_of_cell? _ _ m0
  clear ho1 hg1 hq1
  go_wp2_with fail
  go_loopw [7, 8, 16] (fun _ _ i_ wr => ∃ i : Nat, i ≤ F.length ∧ i_ = .int .i64 i ∧ Hid (srV F T n P L = allF (nnB F T n P L) F.length (F.length - i)) ∧ Below w1.heap.size w1 wr) (fun _ _ i_ _ => F.length - (intOf i_).toNat)
  case atStart => exact ⟨0, by omega, rfl, HS0, Below.refl _ _⟩
  case round =>
    obtain ⟨i, hki, rfl, HV, hbx⟩ := hrel
    clear HS0
    rename World => WO
    have hsz := hbx.size
    by_cases hlt : i < F.length
    · have HV1 := Lib.hid (HV.out.trans (allF_at hlt))
      go_wp2_with fail
      go_loopw [8] (fun k_ wr => ∃ k : Nat, i + 1 ≤ k ∧ k ≤ F.length ∧ k_ = .int .i64 k ∧ Hid (srV F T n P L = match rowF (nnB F T n P L) F.length i (F.length - k) with | some k => some (i, k) | none => allF (nnB F T n P L) F.length (F.length - (i + 1))) ∧ Below w1.heap.size w1 wr) (fun k_ _ => F.length - (intOf k_).toNat)
      case atStart => exact ⟨i + 1, by omega, by omega, by go_num, HV1, hbx⟩
      case round =>
        clear hbx hsz HV HV1
        obtain ⟨k, hik, hkN, rfl, HV, hbx⟩ := hrel
        have hsx := hbx.size
        have hb : Below w.heap.size w wr := Below.next hbx hb1 (by omega)
        have gz2 : w.heap.size < wr.heap.size := by omega
        have rm0 : wr.cell? ⟨w.heap.size, 0, none⟩ = some (.slice A F.length c) := keep1 hbx m0
        have rm1 : wr.cell? ⟨w.heap.size, 1, none⟩ = some (.slice B T.length d) := keep1 hbx m1
        have rm2 : wr.cell? ⟨w.heap.size, 2, none⟩ = some (.int .i64 n) := keep1 hbx m2
        have rm3 : wr.cell? ⟨w.heap.size, 3, none⟩ = some (.slice C P.length f) := keep1 hbx m3
        by_cases hltk : k < F.length
        · have hkP : k < P.length := by have := HLN.out; omega
          have HDL := Lib.hid (swp_dl HOK.out (by omega : i < P.length) hkP)
          obtain ⟨N, hN⟩ : ∃ N, N = (clV F T n (swp P i k) (zer F.length) L).length := ⟨_, rfl⟩
          have HN := Lib.hid hN
          have hN36 : N ≤ 36 := by rw [hN]; exact Nat.le_trans (clTo_len _ _ _ (by rw [swp_len]; have := HLN.out; omega) _) (by rw [swp_len]; have := HLN.out; omega)
          have HB : Hid (nnB F T n P L i k = decide (N = 0)) := Lib.hid (by rw [hN]; rfl)
          clear hN
          by_cases h0 : N = 0
          · have HD : Hid (decide (N = 0) = true) := Lib.hid (by simp [h0])
            go_wp2_with fail
            refine (asSwap_any A c F B d T n C f P i k _ (hf.below (by (repeat (first | exact Below.refl _ _ | assumption | (refine Below.alloc ?_ (by first | omega | (simp; done) | (simp; omega)) _) | (refine Below.setCell ?_ (by first | omega | (simp; done) | (simp; omega)) _) | (refine Below.drew ?_) | (refine Below.drewN ?_ _) | (refine Below.next (by assumption) ?_ (by first | omega | (simp; done) | (simp; omega))))))) (ht.below (by (repeat (first | exact Below.refl _ _ | assumption | (refine Below.alloc ?_ (by first | omega | (simp; done) | (simp; omega)) _) | (refine Below.setCell ?_ (by first | omega | (simp; done) | (simp; omega)) _) | (refine Below.drew ?_) | (refine Below.drewN ?_ _) | (refine Below.next (by assumption) ?_ (by first | omega | (simp; done) | (simp; omega))))))) (hp.below (by (repeat (first | exact Below.refl _ _ | assumption | (refine Below.alloc ?_ (by first | omega | (simp; done) | (simp; omega)) _) | (refine Below.setCell ?_ (by first | omega | (simp; done) | (simp; omega)) _) | (refine Below.drew ?_) | (refine Below.drewN ?_ _) | (refine Below.next (by assumption) ?_ (by first | omega | (simp; done) | (simp; omega))))))) lf lt lp HLN.out.1 HLN.out.2.1 (by omega) hkP).mono ?_
            rintro e w2 ⟨A1, c1, B1, d1, C1, f1, s1, rfl, m1_, m2_, c1_, c2_, a1_, a2_, o1_, s1_, hq2⟩
            have hz2_ := hq2.size
            go_wp2_with fail
            refine (closeZ_any A1 c1 F B1 d1 T n C1 f1 (swp P i k) _ F.length L _ m1_ m2_ (Mem.of_own o1_) lf lt (by rw [swp_len]; exact lp) c1_ c2_ (own_cap o1_) (Mem.below (Mem.of_own HO1.out) (by (repeat (first | exact Below.refl _ _ | assumption | (refine Below.alloc ?_ (by first | omega | (simp; done) | (simp; omega)) _) | (refine Below.setCell ?_ (by first | omega | (simp; done) | (simp; omega)) _) | (refine Below.drew ?_) | (refine Below.drewN ?_ _) | (refine Below.next (by assumption) ?_ (by first | omega | (simp; done) | (simp; omega))))))) HDL.out L0 L1).mono ?_
            rw [← HN.out]
            rintro e w3 ⟨A3, c3, rfl, hq3⟩
            go_wp2_with fail
            go_ret2
            have e3 := row_yes hltk HV.out (HB.out.trans HD.out)
            rw [e3]
            exact ⟨rfl, by (repeat (first | exact Below.refl _ _ | assumption | (refine Below.alloc ?_ (by first | omega | (simp; done) | (simp; omega)) _) | (refine Below.setCell ?_ (by first | omega | (simp; done) | (simp; omega)) _) | (refine Below.drew ?_) | (refine Below.drewN ?_ _) | (refine Below.next (by assumption) ?_ (by first | omega | (simp; done) | (simp; omega)))))⟩
          · have HD : Hid (decide (N = 0) = false) := Lib.hid (by simp [h0])
            go_wp2_with fail
            refine (asSwap_any A c F B d T n C f P i k _ (hf.below (by (repeat (first | exact Below.refl _ _ | assumption | (refine Below.alloc ?_ (by first | omega | (simp; done) | (simp; omega)) _) | (refine Below.setCell ?_ (by first | omega | (simp; done) | (simp; omega)) _) | (refine Below.drew ?_) | (refine Below.drewN ?_ _) | (refine Below.next (by assumption) ?_ (by first | omega | (simp; done) | (simp; omega))))))) (ht.below (by (repeat (first | exact Below.refl _ _ | assumption | (refine Below.alloc ?_ (by first | omega | (simp; done) | (simp; omega)) _) | (refine Below.setCell ?_ (by first | omega | (simp; done) | (simp; omega)) _) | (refine Below.drew ?_) | (refine Below.drewN ?_ _) | (refine Below.next (by assumption) ?_ (by first | omega | (simp; done) | (simp; omega))))))) (hp.below (by (repeat (first | exact Below.refl _ _ | assumption | (refine Below.alloc ?_ (by first | omega | (simp; done) | (simp; omega)) _) | (refine Below.setCell ?_ (by first | omega | (simp; done) | (simp; omega)) _) | (refine Below.drew ?_) | (refine Below.drewN ?_ _) | (refine Below.next (by assumption) ?_ (by first | omega | (simp; done) | (simp; omega))))))) lf lt lp HLN.out.1 HLN.out.2.1 (by omega) hkP).mono ?_
            rintro e w2 ⟨A1, c1, B1, d1, C1, f1, s1, rfl, m1_, m2_, c1_, c2_, a1_, a2_, o1_, s1_, hq2⟩
            have hz2_ := hq2.size
            go_wp2_with fail
            refine (closeZ_any A1 c1 F B1 d1 T n C1 f1 (swp P i k) _ F.length L _ m1_ m2_ (Mem.of_own o1_) lf lt (by rw [swp_len]; exact lp) c1_ c2_ (own_cap o1_) (Mem.below (Mem.of_own HO1.out) (by (repeat (first | exact Below.refl _ _ | assumption | (refine Below.alloc ?_ (by first | omega | (simp; done) | (simp; omega)) _) | (refine Below.setCell ?_ (by first | omega | (simp; done) | (simp; omega)) _) | (refine Below.drew ?_) | (refine Below.drewN ?_ _) | (refine Below.next (by assumption) ?_ (by first | omega | (simp; done) | (simp; omega))))))) HDL.out L0 L1).mono ?_
            rw [← HN.out]
            rintro e w3 ⟨A3, c3, rfl, hq3⟩
            go_wp2_with fail
            go_roundw
            case rel => exact ⟨k + 1, by omega, by omega, by go_num, Lib.hid (row_no hltk HV.out (HB.out.trans HD.out)), by (repeat (first | exact Below.refl _ _ | assumption | (refine Below.alloc ?_ (by first | omega | (simp; done) | (simp; omega)) _) | (refine Below.setCell ?_ (by first | omega | (simp; done) | (simp; omega)) _) | (refine Below.drew ?_) | (refine Below.drewN ?_ _) | (refine Below.next (by assumption) ?_ (by first | omega | (simp; done) | (simp; omega)))))⟩
            case measure => simp [intOf]; omega
        · have e3 : k = F.length := by omega
          subst e3
          go_wp2_with fail
          go_roundw
          case rel => exact ⟨i + 1, by omega, by go_num, Lib.hid (by rw [HV.out, Nat.sub_self]; rfl), hbx⟩
          case measure => simp [intOf]; omega
    · go_wp2_with fail
      go_ret2
      have e3 : srV F T n P L = none := by
        have : F.length - i = 0 := by omega
        rw [HV.out, this]; rfl
      rw [e3]
      exact ⟨rfl, Below.next hbx hb1 (by omega)⟩

set_option maxRecDepth 100000 in
set_option maxHeartbeats 6400000 in
theorem repairSwap_any (A : Option Addr) (c : Nat) (F : List Sp) (B : Option Addr) (d : Nat) (T : List Sp) (n : Int) (C : Option Addr) (f : Nat) (P : List Int) (L : Int) (w : World) (hf : Mem w A (spots F)) (ht : Mem w B (spots T)) (hp : Mem w C (ints P)) (lf : F.length ≤ 1048576) (lt : T.length ≤ 1048576) (lp : P.length ≤ 1048576) (hfc : F.length ≤ c) (htc : T.length ≤ d) (hpc : P.length ≤ f) (hok : rpOk F T n P = true) (L0 : 0 ≤ L) (L1 : L ≤ 80) : Calls Try.prog 81 #[.agg #[.slice A F.length c, .slice B T.length d, .int .i64 n, .slice C P.length f], .int .i64 L] w (fun e w' => e = .returned (.tuple #[.int .i64 (srA (srV F T n P L) 0), .int .i64 (srB (srV F T n P L) 0), .bool (srV F T n P L).isSome]) ∧ Below w.heap.size w w') := by
  obtain ⟨i0, hi, hz0, hz1, hz2⟩ := info_parts info_int
  have HLN := Lib.hid (swp_lens hok)
  have HOK := Lib.hid hok
  have hF6 : F.length ≤ 6 := HLN.out.2.2.2.1
  have HS0 : Hid (srV F T n P L = allF (nnB F T n P L) F.length (F.length - 0)) := Lib.hid rfl
  clear hok
  go_enter Try.func81, Try.ntmps81
  go_wp2_with fail
  have hb1 : Below w.heap.size w (w.alloc (.cells #[.slice A F.length c, .slice B T.length d, .int .i64 n, .slice C P.length f] 31)) := by (repeat (first | exact Below.refl _ _ | assumption | (refine Below.alloc ?_ (by first | omega | (simp; done) | (simp; omega)) _) | (refine Below.setCell ?_ (by first | omega | (simp; done) | (simp; omega)) _) | (refine Below.drew ?_) | (refine Below.drewN ?_ _) | (refine Below.next (by assumption) ?_ (by first | omega | (simp; done) | (simp; omega)))))
  have m0 : (w.alloc (.cells #[.slice A F.length c, .slice B T.length d, .int .i64 n, .slice C P.length f] 31)).cell? ⟨w.heap.size, 0, none⟩ = some (.slice A F.length c) := by simp [go_sem]
  have m1 : (w.alloc (.cells #[.slice A F.length c, .slice B T.length d, .int .i64 n, .slice C P.length f] 31)).cell? ⟨w.heap.size, 1, none⟩ = some (.slice B T.length d) := by simp [go_sem]
  have m2 : (w.alloc (.cells #[.slice A F.length c, .slice B T.length d, .int .i64 n, .slice C P.length f] 31)).cell? ⟨w.heap.size, 2, none⟩ = some (.int .i64 n) := by simp [go_sem]
  have m3 : (w.alloc (.cells #[.slice A F.length c, .slice B T.length d, .int .i64 n, .slice C P.length f] 31)).cell? ⟨w.heap.size, 3, none⟩ = some (.slice C P.length f) := by simp [go_sem]
  have gz1 : w.heap.size < (w.alloc (.cells #[.slice A F.length c, .slice B T.length d, .int .i64 n, .slice C P.length f] 31)).heap.size := by simp
  generalize w.alloc (.cells #[.slice A F.length c, .slice B T.length d, .int .i64 n, .slice C P.length f] 31) = w1 at *
  go_wp2_with fail
  go_loopw [7, 8, 12] (fun _ _ i_ wr => ∃ i : Nat, i ≤ F.length ∧ i_ = .int .i64 i ∧ Hid (srV F T n P L = allF (nnB F T n P L) F.length (F.length - i)) ∧ Below w1.heap.size w1 wr) (fun _ _ i_ _ => F.length - (intOf i_).toNat)
  case atStart => exact ⟨0, by omega, rfl, HS0, Below.refl _ _⟩
  case round =>
    obtain ⟨i, hki, rfl, HV, hbx⟩ := hrel
    clear HS0
    rename World => WO
    have hsz := hbx.size
    by_cases hlt : i < F.length
    · have HV1 := Lib.hid (HV.out.trans (allF_at hlt))
      go_wp2_with fail
      go_loopw [8] (fun k_ wr => ∃ k : Nat, i + 1 ≤ k ∧ k ≤ F.length ∧ k_ = .int .i64 k ∧ Hid (srV F T n P L = match rowF (nnB F T n P L) F.length i (F.length - k) with | some k => some (i, k) | none => allF (nnB F T n P L) F.length (F.length - (i + 1))) ∧ Below w1.heap.size w1 wr) (fun k_ _ => F.length - (intOf k_).toNat)
      case atStart => exact ⟨i + 1, by omega, by omega, by go_num, HV1, hbx⟩
      case round =>
        clear hbx hsz HV HV1
        obtain ⟨k, hik, hkN, rfl, HV, hbx⟩ := hrel
        have hsx := hbx.size
        have hb : Below w.heap.size w wr := Below.next hbx hb1 (by omega)
        have gz2 : w.heap.size < wr.heap.size := by omega
        have rm0 : wr.cell? ⟨w.heap.size, 0, none⟩ = some (.slice A F.length c) := keep1 hbx m0
        have rm1 : wr.cell? ⟨w.heap.size, 1, none⟩ = some (.slice B T.length d) := keep1 hbx m1
        have rm2 : wr.cell? ⟨w.heap.size, 2, none⟩ = some (.int .i64 n) := keep1 hbx m2
        have rm3 : wr.cell? ⟨w.heap.size, 3, none⟩ = some (.slice C P.length f) := keep1 hbx m3
        by_cases hltk : k < F.length
        · have hkP : k < P.length := by have := HLN.out; omega
          have HDL := Lib.hid (swp_dl HOK.out (by omega : i < P.length) hkP)
          obtain ⟨N, hN⟩ : ∃ N, N = (clV F T n (swp P i k) (zer F.length) L).length := ⟨_, rfl⟩
          have HN := Lib.hid hN
          have hN36 : N ≤ 36 := by rw [hN]; exact Nat.le_trans (clTo_len _ _ _ (by rw [swp_len]; have := HLN.out; omega) _) (by rw [swp_len]; have := HLN.out; omega)
          have HB : Hid (nnB F T n P L i k = decide (N = 0)) := Lib.hid (by rw [hN]; rfl)
          clear hN
          by_cases h0 : N = 0
          · have HD : Hid (decide (N = 0) = true) := Lib.hid (by simp [h0])
            go_wp2_with fail
            refine (swapPlaces_any A c F B d T n C f P i k _ (hf.below (by (repeat (first | exact Below.refl _ _ | assumption | (refine Below.alloc ?_ (by first | omega | (simp; done) | (simp; omega)) _) | (refine Below.setCell ?_ (by first | omega | (simp; done) | (simp; omega)) _) | (refine Below.drew ?_) | (refine Below.drewN ?_ _) | (refine Below.next (by assumption) ?_ (by first | omega | (simp; done) | (simp; omega))))))) (ht.below (by (repeat (first | exact Below.refl _ _ | assumption | (refine Below.alloc ?_ (by first | omega | (simp; done) | (simp; omega)) _) | (refine Below.setCell ?_ (by first | omega | (simp; done) | (simp; omega)) _) | (refine Below.drew ?_) | (refine Below.drewN ?_ _) | (refine Below.next (by assumption) ?_ (by first | omega | (simp; done) | (simp; omega))))))) (hp.below (by (repeat (first | exact Below.refl _ _ | assumption | (refine Below.alloc ?_ (by first | omega | (simp; done) | (simp; omega)) _) | (refine Below.setCell ?_ (by first | omega | (simp; done) | (simp; omega)) _) | (refine Below.drew ?_) | (refine Below.drewN ?_ _) | (refine Below.next (by assumption) ?_ (by first | omega | (simp; done) | (simp; omega))))))) lf lt lp HLN.out.1 HLN.out.2.1 (by omega) hkP).mono ?_
            rintro e w2 ⟨A1, c1, B1, d1, C1, f1, s1, rfl, m1_, m2_, c1_, c2_, a1_, a2_, o1_, s1_, hq2⟩
            have hz2_ := hq2.size
            go_wp2_with fail
            refine (needsNothing_any A1 c1 F B1 d1 T n C1 f1 (swp P i k) L _ m1_ m2_ (Mem.of_own o1_) lf lt (by rw [swp_len]; exact lp) c1_ c2_ (own_cap o1_) HDL.out L0 L1).mono ?_
            rw [← HN.out, HD.out]
            rintro e w3 ⟨rfl, hq3⟩
            go_wp2_with fail
            go_ret3
            have e3 := row_yes hltk HV.out (HB.out.trans HD.out)
            rw [e3]
            exact ⟨rfl, by (repeat (first | exact Below.refl _ _ | assumption | (refine Below.alloc ?_ (by first | omega | (simp; done) | (simp; omega)) _) | (refine Below.setCell ?_ (by first | omega | (simp; done) | (simp; omega)) _) | (refine Below.drew ?_) | (refine Below.drewN ?_ _) | (refine Below.next (by assumption) ?_ (by first | omega | (simp; done) | (simp; omega)))))⟩
          · have HD : Hid (decide (N = 0) = false) := Lib.hid (by simp [h0])
            go_wp2_with fail
            refine (swapPlaces_any A c F B d T n C f P i k _ (hf.below (by (repeat (first | exact Below.refl _ _ | assumption | (refine Below.alloc ?_ (by first | omega | (simp; done) | (simp; omega)) _) | (refine Below.setCell ?_ (by first | omega | (simp; done) | (simp; omega)) _) | (refine Below.drew ?_) | (refine Below.drewN ?_ _) | (refine Below.next (by assumption) ?_ (by first | omega | (simp; done) | (simp; omega))))))) (ht.below (by (repeat (first | exact Below.refl _ _ | assumption | (refine Below.alloc ?_ (by first | omega | (simp; done) | (simp; omega)) _) | (refine Below.setCell ?_ (by first | omega | (simp; done) | (simp; omega)) _) | (refine Below.drew ?_) | (refine Below.drewN ?_ _) | (refine Below.next (by assumption) ?_ (by first | omega | (simp; done) | (simp; omega))))))) (hp.below (by (repeat (first | exact Below.refl _ _ | assumption | (refine Below.alloc ?_ (by first | omega | (simp; done) | (simp; omega)) _) | (refine Below.setCell ?_ (by first | omega | (simp; done) | (simp; omega)) _) | (refine Below.drew ?_) | (refine Below.drewN ?_ _) | (refine Below.next (by assumption) ?_ (by first | omega | (simp; done) | (simp; omega))))))) lf lt lp HLN.out.1 HLN.out.2.1 (by omega) hkP).mono ?_
            rintro e w2 ⟨A1, c1, B1, d1, C1, f1, s1, rfl, m1_, m2_, c1_, c2_, a1_, a2_, o1_, s1_, hq2⟩
            have hz2_ := hq2.size
            go_wp2_with fail
            refine (needsNothing_any A1 c1 F B1 d1 T n C1 f1 (swp P i k) L _ m1_ m2_ (Mem.of_own o1_) lf lt (by rw [swp_len]; exact lp) c1_ c2_ (own_cap o1_) HDL.out L0 L1).mono ?_
            rw [← HN.out, HD.out]
            rintro e w3 ⟨rfl, hq3⟩
            go_wp2_with fail
            go_roundw
            case rel => exact ⟨k + 1, by omega, by omega, by go_num, Lib.hid (row_no hltk HV.out (HB.out.trans HD.out)), by (repeat (first | exact Below.refl _ _ | assumption | (refine Below.alloc ?_ (by first | omega | (simp; done) | (simp; omega)) _) | (refine Below.setCell ?_ (by first | omega | (simp; done) | (simp; omega)) _) | (refine Below.drew ?_) | (refine Below.drewN ?_ _) | (refine Below.next (by assumption) ?_ (by first | omega | (simp; done) | (simp; omega)))))⟩
            case measure => simp [intOf]; omega
        · have e3 : k = F.length := by omega
          subst e3
          go_wp2_with fail
          go_roundw
          case rel => exact ⟨i + 1, by omega, by go_num, Lib.hid (by rw [HV.out, Nat.sub_self]; rfl), hbx⟩
          case measure => simp [intOf]; omega
    · go_wp2_with fail
      go_ret3
      have e3 : srV F T n P L = none := by
        have : F.length - i = 0 := by omega
        rw [HV.out, this]; rfl
      rw [e3]
      exact ⟨rfl, Below.next hbx hb1 (by omega)⟩

def rsOk (F T : List Sp) (n : Int) (P : List Int) (L : Int) : Bool := rpOk F T n P && inR L 0 80
def rsV (F T : List Sp) (n : Int) (P : List Int) (L : Int) : Option (Nat × Nat) := if rsOk F T n P L then srV F T n P L else none
theorem ret_t3 {a b c d : Int} {x y : Bool} (h1 : a = b) (h2 : c = d) (h3 : x = y) : Ending.returned (.tuple #[.int .i64 a, .int .i64 c, .bool x]) = .returned (.tuple #[.int .i64 b, .int .i64 d, .bool y]) := by rw [h1, h2, h3]

set_option maxRecDepth 100000 in
set_option maxHeartbeats 3200000 in
theorem spec_RepairSwap_any (A : Option Addr) (c : Nat) (F : List Sp) (B : Option Addr) (d : Nat) (T : List Sp) (n : Int) (C : Option Addr) (f : Nat) (P : List Int) (L : Int) (w : World) (hf : Mem w A (spots F)) (ht : Mem w B (spots T)) (hp : Mem w C (ints P)) (lf : F.length ≤ 1048576) (lt : T.length ≤ 1048576) (lp : P.length ≤ 1048576) (hfc : F.length ≤ c) (htc : T.length ≤ d) (hpc : P.length ≤ f) : Calls Try.prog 31 #[.agg #[.slice A F.length c, .slice B T.length d, .int .i64 n, .slice C P.length f], .int .i64 L] w fun e w' => e = .returned (.tuple #[.int .i64 (srA (rsV F T n P L) 0), .int .i64 (srB (rsV F T n P L) 0), .bool (rsV F T n P L).isSome]) ∧ Below w.heap.size w w' := by
  have e0 : Hid (rsOk F T n P L = (rpOk F T n P && inR L 0 80)) := Lib.hid rfl
  have e1 : Hid (rsOk F T n P L = false → rsV F T n P L = none) := Lib.hid (fun h => by simp [rsV, h])
  have e3 : Hid (rsOk F T n P L = true → rsV F T n P L = srV F T n P L) := Lib.hid (fun h => by simp [rsV, h])
  cases h1 : rpOk F T n P
  all_goals
    have H1 := Lib.hid h1
    clear h1
    go_enter Try.func31, Try.ntmps31
    go_wp2_with fail
    refine (rpGood_any A c F B d T n C f P _ (hf.below (by (repeat (first | exact Below.refl _ _ | assumption | (refine Below.alloc ?_ (by first | omega | (simp; done) | (simp; omega)) _) | (refine Below.setCell ?_ (by first | omega | (simp; done) | (simp; omega)) _) | (refine Below.drew ?_) | (refine Below.drewN ?_ _) | (refine Below.next (by assumption) ?_ (by first | omega | (simp; done) | (simp; omega))))))) (ht.below (by (repeat (first | exact Below.refl _ _ | assumption | (refine Below.alloc ?_ (by first | omega | (simp; done) | (simp; omega)) _) | (refine Below.setCell ?_ (by first | omega | (simp; done) | (simp; omega)) _) | (refine Below.drew ?_) | (refine Below.drewN ?_ _) | (refine Below.next (by assumption) ?_ (by first | omega | (simp; done) | (simp; omega))))))) (hp.below (by (repeat (first | exact Below.refl _ _ | assumption | (refine Below.alloc ?_ (by first | omega | (simp; done) | (simp; omega)) _) | (refine Below.setCell ?_ (by first | omega | (simp; done) | (simp; omega)) _) | (refine Below.drew ?_) | (refine Below.drewN ?_ _) | (refine Below.next (by assumption) ?_ (by first | omega | (simp; done) | (simp; omega))))))) lf lt lp hfc htc hpc).mono ?_
    rintro e w1 ⟨he, hq⟩
    rw [H1.out] at he
    subst he
    have m1_0 : w1.cell? ⟨w.heap.size, 0, none⟩ = some (.slice A F.length c) := (hq.cell (by first | omega | (simp; done) | (simp; omega))).trans (by simp [go_sem])
    have m1_1 : w1.cell? ⟨w.heap.size, 1, none⟩ = some (.slice B T.length d) := (hq.cell (by first | omega | (simp; done) | (simp; omega))).trans (by simp [go_sem])
    have m1_2 : w1.cell? ⟨w.heap.size, 2, none⟩ = some (.int .i64 n) := (hq.cell (by first | omega | (simp; done) | (simp; omega))).trans (by simp [go_sem])
    have m1_3 : w1.cell? ⟨w.heap.size, 3, none⟩ = some (.slice C P.length f) := (hq.cell (by first | omega | (simp; done) | (simp; omega))).trans (by simp [go_sem])
    have gz1 : w.heap.size < w1.heap.size := World.block_lt_of_cell? _ _ m1_0
    have hb1 : Below w.heap.size w w1 := by (repeat (first | exact Below.refl _ _ | assumption | (refine Below.alloc ?_ (by first | omega | (simp; done) | (simp; omega)) _) | (refine Below.setCell ?_ (by first | omega | (simp; done) | (simp; omega)) _) | (refine Below.drew ?_) | (refine Below.drewN ?_ _) | (refine Below.next (by assumption) ?_ (by first | omega | (simp; done) | (simp; omega)))))
    clear hq
  · go_wp2_with fail
    go_ret3
    exact ⟨ret_t3 (by rw [e1.out (by rw [e0.out, H1.out]; rfl)]; rfl) (by rw [e1.out (by rw [e0.out, H1.out]; rfl)]; rfl) (by rw [e1.out (by rw [e0.out, H1.out]; rfl)]; rfl), by (repeat (first | exact Below.refl _ _ | assumption | (refine Below.alloc ?_ (by first | omega | (simp; done) | (simp; omega)) _) | (refine Below.setCell ?_ (by first | omega | (simp; done) | (simp; omega)) _) | (refine Below.drew ?_) | (refine Below.drewN ?_ _) | (refine Below.next (by assumption) ?_ (by first | omega | (simp; done) | (simp; omega)))))⟩
  cases h2 : inR L 0 80
  all_goals
    have H2 := Lib.hid h2
    clear h2
    go_wp2_with (first | (go_at_call 74; refine (apDistance_any _ _).mono ?_; rintro e w' ⟨he, rfl⟩; rw [H2.out] at he; subst he) | fail)
  · go_ret3
    exact ⟨ret_t3 (by rw [e1.out (by rw [e0.out, H1.out, H2.out]; rfl)]; rfl) (by rw [e1.out (by rw [e0.out, H1.out, H2.out]; rfl)]; rfl) (by rw [e1.out (by rw [e0.out, H1.out, H2.out]; rfl)]; rfl), by (repeat (first | exact Below.refl _ _ | assumption | (refine Below.alloc ?_ (by first | omega | (simp; done) | (simp; omega)) _) | (refine Below.setCell ?_ (by first | omega | (simp; done) | (simp; omega)) _) | (refine Below.drew ?_) | (refine Below.drewN ?_ _) | (refine Below.next (by assumption) ?_ (by first | omega | (simp; done) | (simp; omega)))))⟩
  have HOK := Lib.hid (show rsOk F T n P L = true by rw [e0.out, H1.out, H2.out]; rfl)
  obtain ⟨hL0, hL1⟩ := inR_iff.1 H2.out
  refine (rpSwap_any A c F B d T n C f P L _ (hf.below (by (repeat (first | exact Below.refl _ _ | assumption | (refine Below.alloc ?_ (by first | omega | (simp; done) | (simp; omega)) _) | (refine Below.setCell ?_ (by first | omega | (simp; done) | (simp; omega)) _) | (refine Below.drew ?_) | (refine Below.drewN ?_ _) | (refine Below.next (by assumption) ?_ (by first | omega | (simp; done) | (simp; omega))))))) (ht.below (by (repeat (first | exact Below.refl _ _ | assumption | (refine Below.alloc ?_ (by first | omega | (simp; done) | (simp; omega)) _) | (refine Below.setCell ?_ (by first | omega | (simp; done) | (simp; omega)) _) | (refine Below.drew ?_) | (refine Below.drewN ?_ _) | (refine Below.next (by assumption) ?_ (by first | omega | (simp; done) | (simp; omega))))))) (hp.below (by (repeat (first | exact Below.refl _ _ | assumption | (refine Below.alloc ?_ (by first | omega | (simp; done) | (simp; omega)) _) | (refine Below.setCell ?_ (by first | omega | (simp; done) | (simp; omega)) _) | (refine Below.drew ?_) | (refine Below.drewN ?_ _) | (refine Below.next (by assumption) ?_ (by first | omega | (simp; done) | (simp; omega))))))) lf lt lp hfc htc hpc H1.out hL0 hL1).mono ?_
  cases hV : srV F T n P L with
  | none =>
    have HV := Lib.hid hV
    rintro e w3 ⟨rfl, hq3⟩
    clear hV
    simp only [srA, srB, Option.elim]
    go_wp2_with fail
    go_ret3
    exact ⟨ret_t3 (by rw [e3.out HOK.out, HV.out]; rfl) (by rw [e3.out HOK.out, HV.out]; rfl) (by rw [e3.out HOK.out, HV.out]; rfl), by (repeat (first | exact Below.refl _ _ | assumption | (refine Below.alloc ?_ (by first | omega | (simp; done) | (simp; omega)) _) | (refine Below.setCell ?_ (by first | omega | (simp; done) | (simp; omega)) _) | (refine Below.drew ?_) | (refine Below.drewN ?_ _) | (refine Below.next (by assumption) ?_ (by first | omega | (simp; done) | (simp; omega)))))⟩
  | some v =>
    obtain ⟨i, k⟩ := v
    have HV := Lib.hid hV
    rintro e w3 ⟨rfl, hq3⟩
    clear hV
    simp only [srA, srB, Option.elim]
    go_wp2_with fail
    go_ret3
    exact ⟨ret_t3 (by rw [e3.out HOK.out, HV.out]; rfl) (by rw [e3.out HOK.out, HV.out]; rfl) (by rw [e3.out HOK.out, HV.out]; rfl), by (repeat (first | exact Below.refl _ _ | assumption | (refine Below.alloc ?_ (by first | omega | (simp; done) | (simp; omega)) _) | (refine Below.setCell ?_ (by first | omega | (simp; done) | (simp; omega)) _) | (refine Below.drew ?_) | (refine Below.drewN ?_ _) | (refine Below.next (by assumption) ?_ (by first | omega | (simp; done) | (simp; omega)))))⟩


set_option maxRecDepth 100000 in
set_option maxHeartbeats 3200000 in
theorem impl_RepairSwap_any (A : Option Addr) (c : Nat) (F : List Sp) (B : Option Addr) (d : Nat) (T : List Sp) (n : Int) (C : Option Addr) (f : Nat) (P : List Int) (L : Int) (w : World) (hf : Mem w A (spots F)) (ht : Mem w B (spots T)) (hp : Mem w C (ints P)) (lf : F.length ≤ 1048576) (lt : T.length ≤ 1048576) (lp : P.length ≤ 1048576) (hfc : F.length ≤ c) (htc : T.length ≤ d) (hpc : P.length ≤ f) : Calls Try.prog 32 #[.agg #[.slice A F.length c, .slice B T.length d, .int .i64 n, .slice C P.length f], .int .i64 L] w fun e w' => e = .returned (.tuple #[.int .i64 (srA (rsV F T n P L) 0), .int .i64 (srB (rsV F T n P L) 0), .bool (rsV F T n P L).isSome]) ∧ Below w.heap.size w w' := by
  have e0 : Hid (rsOk F T n P L = (rpOk F T n P && inR L 0 80)) := Lib.hid rfl
  have e1 : Hid (rsOk F T n P L = false → rsV F T n P L = none) := Lib.hid (fun h => by simp [rsV, h])
  have e3 : Hid (rsOk F T n P L = true → rsV F T n P L = srV F T n P L) := Lib.hid (fun h => by simp [rsV, h])
  cases h1 : rpOk F T n P
  all_goals
    have H1 := Lib.hid h1
    clear h1
    go_enter Try.func32, Try.ntmps32
    go_wp2_with fail
    refine (isRepaired_any A c F B d T n C f P _ (hf.below (by (repeat (first | exact Below.refl _ _ | assumption | (refine Below.alloc ?_ (by first | omega | (simp; done) | (simp; omega)) _) | (refine Below.setCell ?_ (by first | omega | (simp; done) | (simp; omega)) _) | (refine Below.drew ?_) | (refine Below.drewN ?_ _) | (refine Below.next (by assumption) ?_ (by first | omega | (simp; done) | (simp; omega))))))) (ht.below (by (repeat (first | exact Below.refl _ _ | assumption | (refine Below.alloc ?_ (by first | omega | (simp; done) | (simp; omega)) _) | (refine Below.setCell ?_ (by first | omega | (simp; done) | (simp; omega)) _) | (refine Below.drew ?_) | (refine Below.drewN ?_ _) | (refine Below.next (by assumption) ?_ (by first | omega | (simp; done) | (simp; omega))))))) (hp.below (by (repeat (first | exact Below.refl _ _ | assumption | (refine Below.alloc ?_ (by first | omega | (simp; done) | (simp; omega)) _) | (refine Below.setCell ?_ (by first | omega | (simp; done) | (simp; omega)) _) | (refine Below.drew ?_) | (refine Below.drewN ?_ _) | (refine Below.next (by assumption) ?_ (by first | omega | (simp; done) | (simp; omega))))))) lf lt lp hfc htc hpc).mono ?_
    rintro e w1 ⟨he, hq⟩
    rw [H1.out] at he
    subst he
    have m1_0 : w1.cell? ⟨w.heap.size, 0, none⟩ = some (.slice A F.length c) := (hq.cell (by first | omega | (simp; done) | (simp; omega))).trans (by simp [go_sem])
    have m1_1 : w1.cell? ⟨w.heap.size, 1, none⟩ = some (.slice B T.length d) := (hq.cell (by first | omega | (simp; done) | (simp; omega))).trans (by simp [go_sem])
    have m1_2 : w1.cell? ⟨w.heap.size, 2, none⟩ = some (.int .i64 n) := (hq.cell (by first | omega | (simp; done) | (simp; omega))).trans (by simp [go_sem])
    have m1_3 : w1.cell? ⟨w.heap.size, 3, none⟩ = some (.slice C P.length f) := (hq.cell (by first | omega | (simp; done) | (simp; omega))).trans (by simp [go_sem])
    have gz1 : w.heap.size < w1.heap.size := World.block_lt_of_cell? _ _ m1_0
    have hb1 : Below w.heap.size w w1 := by (repeat (first | exact Below.refl _ _ | assumption | (refine Below.alloc ?_ (by first | omega | (simp; done) | (simp; omega)) _) | (refine Below.setCell ?_ (by first | omega | (simp; done) | (simp; omega)) _) | (refine Below.drew ?_) | (refine Below.drewN ?_ _) | (refine Below.next (by assumption) ?_ (by first | omega | (simp; done) | (simp; omega)))))
    clear hq
  · go_wp2_with fail
    go_ret3
    exact ⟨ret_t3 (by rw [e1.out (by rw [e0.out, H1.out]; rfl)]; rfl) (by rw [e1.out (by rw [e0.out, H1.out]; rfl)]; rfl) (by rw [e1.out (by rw [e0.out, H1.out]; rfl)]; rfl), by (repeat (first | exact Below.refl _ _ | assumption | (refine Below.alloc ?_ (by first | omega | (simp; done) | (simp; omega)) _) | (refine Below.setCell ?_ (by first | omega | (simp; done) | (simp; omega)) _) | (refine Below.drew ?_) | (refine Below.drewN ?_ _) | (refine Below.next (by assumption) ?_ (by first | omega | (simp; done) | (simp; omega)))))⟩
  cases h2 : inR L 0 80
  all_goals
    have H2 := Lib.hid h2
    clear h2
    go_wp2_with (first | (go_at_call 76; refine (isLeast_any _ _).mono ?_; rintro e w' ⟨he, rfl⟩; rw [H2.out] at he; subst he) | fail)
  · go_ret3
    exact ⟨ret_t3 (by rw [e1.out (by rw [e0.out, H1.out, H2.out]; rfl)]; rfl) (by rw [e1.out (by rw [e0.out, H1.out, H2.out]; rfl)]; rfl) (by rw [e1.out (by rw [e0.out, H1.out, H2.out]; rfl)]; rfl), by (repeat (first | exact Below.refl _ _ | assumption | (refine Below.alloc ?_ (by first | omega | (simp; done) | (simp; omega)) _) | (refine Below.setCell ?_ (by first | omega | (simp; done) | (simp; omega)) _) | (refine Below.drew ?_) | (refine Below.drewN ?_ _) | (refine Below.next (by assumption) ?_ (by first | omega | (simp; done) | (simp; omega)))))⟩
  have HOK := Lib.hid (show rsOk F T n P L = true by rw [e0.out, H1.out, H2.out]; rfl)
  obtain ⟨hL0, hL1⟩ := inR_iff.1 H2.out
  refine (repairSwap_any A c F B d T n C f P L _ (hf.below (by (repeat (first | exact Below.refl _ _ | assumption | (refine Below.alloc ?_ (by first | omega | (simp; done) | (simp; omega)) _) | (refine Below.setCell ?_ (by first | omega | (simp; done) | (simp; omega)) _) | (refine Below.drew ?_) | (refine Below.drewN ?_ _) | (refine Below.next (by assumption) ?_ (by first | omega | (simp; done) | (simp; omega))))))) (ht.below (by (repeat (first | exact Below.refl _ _ | assumption | (refine Below.alloc ?_ (by first | omega | (simp; done) | (simp; omega)) _) | (refine Below.setCell ?_ (by first | omega | (simp; done) | (simp; omega)) _) | (refine Below.drew ?_) | (refine Below.drewN ?_ _) | (refine Below.next (by assumption) ?_ (by first | omega | (simp; done) | (simp; omega))))))) (hp.below (by (repeat (first | exact Below.refl _ _ | assumption | (refine Below.alloc ?_ (by first | omega | (simp; done) | (simp; omega)) _) | (refine Below.setCell ?_ (by first | omega | (simp; done) | (simp; omega)) _) | (refine Below.drew ?_) | (refine Below.drewN ?_ _) | (refine Below.next (by assumption) ?_ (by first | omega | (simp; done) | (simp; omega))))))) lf lt lp hfc htc hpc H1.out hL0 hL1).mono ?_
  rintro e w3 ⟨rfl, hq3⟩
  go_wp2_with fail
  go_ret3
  exact ⟨ret_t3 (by rw [e3.out HOK.out]) (by rw [e3.out HOK.out]) (by rw [e3.out HOK.out]), by (repeat (first | exact Below.refl _ _ | assumption | (refine Below.alloc ?_ (by first | omega | (simp; done) | (simp; omega)) _) | (refine Below.setCell ?_ (by first | omega | (simp; done) | (simp; omega)) _) | (refine Below.drew ?_) | (refine Below.drewN ?_ _) | (refine Below.next (by assumption) ?_ (by first | omega | (simp; done) | (simp; omega)))))⟩


end Go.Proofs.Ytjnkkeaknaoghaa
