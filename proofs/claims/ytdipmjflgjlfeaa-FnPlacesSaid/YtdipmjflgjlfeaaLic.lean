/-
  Contracts: BestConductor, CorrectedFor, the program's and the reference's.
-/
import Derived.Test.YtdipmjflgjlfeaaLib
import Derived.Deep.RegionHeld3
namespace Go.Proofs.Ytdipmjflgjlfeaa
open Go.RowKit Go.Sort

/-- A make inside a region that draws its order. -/
theorem upon_make {P : Program} (w : World) {o : Oper} {a : Act} {K : Act → World → Prop} {Q : Exit → Act → World → Prop}
    (t e : TypeId) (i : TypeInfo) (z : Value) (size : Nat) (h1 : P.underlying t = some (.slice e)) (h2 : P.info? e = some i) (h3 : i.zero = some z) (h4 : i.size = size)
    (k : IntKind) (n : Nat) (b2 : i.bytes * n ≤ 281474976710656) (b3 : n ≤ maxLen)
    (hK : ∀ w', w'.ownsRow w.heap.size e size (.slice (some ⟨w.heap.size, 0, none⟩) n n) n (madeCells z.cells (n * size)).toList → w.grownBy w' none → K (a.put o.dst (.slice (some ⟨w.heap.size, 0, none⟩) n n)) w') :
    Oper.upon P o a K Q ((Sem.run P (Instr.makeSlice t (.int k (n : Int)) (.int k (n : Int))) w).andThen fun a w' => Result.ok (Next.value a) w') := by
  obtain ⟨w', hrun, r1, r2⟩ := run_make_full (P := P) w w.heap.size t e i z size h1 h2 h3 h4 k k n b2 b3 (Nat.le_refl _)
  rw [hrun]
  exact hK w' r1 r2

def zeros (n : Nat) : List Int := List.replicate n 0
theorem zeros_len (n : Nat) : (zeros n).length = n := by simp [zeros]
theorem zeros_all (n : Nat) : ∀ o ∈ zeros n, -10000 ≤ o ∧ o ≤ 10000 := fun o h => by rw [List.eq_of_mem_replicate h]; omega
theorem zip_zeros : ∀ T : List Int, List.zipWith (fun t o => t + o) T (List.replicate T.length 0) = T
  | [] => rfl
  | t :: T => by rw [List.length_cons, List.replicate_succ, List.zipWith_cons_cons, zip_zeros T, Int.add_zero]
theorem heard_zeros (L : List Sp) (a : Sp) : heard L (zeros L.length) a = times L a := by
  have := zip_zeros (times L a)
  rw [times_len] at this
  exact this
theorem made_zeros (n : Nat) : (madeCells #[Value.int .i64 0] (n * 1)).toList = ints (zeros n) := made_flat (fun n : Int => [Value.int .i64 n]) 1 0 (by omega) (fun _ => rfl) n
theorem made_row {w : World} {base : Nat} {e : TypeId} {g' : Nat} (g : Nat) {n : Nat} (h : w.ownsRow base e 1 (.slice (some ⟨g', 0, none⟩) n n) n (madeCells (Value.int .i64 0).cells (n * 1)).toList) (hg : g' = g) : w.ownsRow base e 1 (.slice (some ⟨g, 0, none⟩) n n) n (ints (zeros n)) := by
  subst hg
  rw [← made_zeros]
  exact h
theorem times_off {L : List Sp} {s : Sp} (h : L.all isSp = true) (hs : isSp s = true) : ∀ o ∈ times L s, -10000 ≤ o ∧ o ≤ 10000 := fun o ho => by
  have := times_all h hs o ho
  omega

/-- The best conductor: the first least spread. -/
def bcs (L M : List Sp) (a : Sp) : List Int := M.map fun p => hspr L (times L p) a
theorem bcs_at {L M : List Sp} {a s : Sp} {k : Nat} (h : M[k]? = some s) : (bcs L M a)[k]? = some (hspr L (times L s) a) := by simp [bcs, h]
def bcTo (T : List Int) : Nat → Nat × Int
  | 0 => (0, -1)
  | k + 1 => if (bcTo T k).2 < 0 ∨ T.getD k 0 < (bcTo T k).2 then (k, T.getD k 0) else bcTo T k
theorem bcTo_succ {T : List Int} {k n : Nat} {m t : Int} (h : bcTo T k = (n, m)) (ht : T[k]? = some t) : bcTo T (k + 1) = if m < 0 ∨ t < m then (k, t) else (n, m) := by simp [bcTo, h, ht]
def bcOk (L M : List Sp) (a : Sp) : Bool := (srcOk L && srcOk M) && isSp a
def bc1 (L M : List Sp) (a : Sp) : Int := if bcOk L M a then ((bcTo (bcs L M a) M.length).1 : Int) else 0
def bc2 (L M : List Sp) (a : Sp) : Int := if bcOk L M a then (bcTo (bcs L M a) M.length).2 else 0

/-- Corrected: the least time less each. -/
def corr (L : List Sp) (a : Sp) : List Int := (times L a).map fun t => lowOf (times L a) - t
theorem corr_len (L : List Sp) (a : Sp) : (corr L a).length = L.length := by simp [corr, times_len]
theorem corr_take {L : List Sp} {a : Sp} {k : Nat} {t : Int} (h : (times L a)[k]? = some t) : (corr L a).take (k + 1) = (corr L a).take k ++ [lowOf (times L a) - t] := by
  rw [List.take_add_one]
  simp [corr, h]
def cfV (L : List Sp) (a : Sp) : List Int := if srcOk L && isSp a then corr L a else []

theorem lsHeardZ_any (A : Option Addr) (c : Nat) (L : List Sp) (B : Option Addr) (d : Nat) (a : Sp) (w : World) (hm : Mem w A (spots L)) (hn : Mem w B (ints (zeros L.length))) (g2 : L.length ≤ 40) (g1 : L.all isSp = true) (h2 : isSp a = true) :
    Calls Try.prog 96 #[.slice A L.length c, .slice B L.length d, .agg #[.int .i64 a.x, .int .i64 a.y]] w fun e w' =>
    ∃ A' c', e = .returned (.slice A' L.length c') ∧ w'.ownsRow w.heap.size 3 1 (.slice A' L.length c') L.length (ints (times L a)) ∧ Below w.heap.size w w' := by
  have := lsHeard_any A c L B d (zeros L.length) a w hm hn g2 g1 (zeros_all _) (zeros_len _).symm h2
  rw [zeros_len, heard_zeros] at this
  exact this
theorem lsSpreadT_any (A : Option Addr) (c : Nat) (L : List Sp) (B : Option Addr) (d : Nat) (s a : Sp) (w : World) (hm : Mem w A (spots L)) (hn : Mem w B (ints (times L s))) (r2 : L.length ≤ 40) (r3 : 0 < L.length) (r1 : L.all isSp = true) (hs : isSp s = true) (h2 : isSp a = true) :
    Calls Try.prog 97 #[.slice A L.length c, .slice B L.length d, .agg #[.int .i64 a.x, .int .i64 a.y]] w fun e w' => e = .returned (.int .i64 (hspr L (times L s) a)) ∧ Below w.heap.size w w' := by
  have := lsSpread_any A c L B d (times L s) a w hm hn r2 r3 r1 (times_off r1 hs) (times_len L s).symm h2
  rw [times_len] at this
  exact this
theorem heardTimesT_any (A : Option Addr) (c : Nat) (L : List Sp) (B : Option Addr) (d : Nat) (s a : Sp) (w : World) (hm : Mem w A (spots L)) (hn : Mem w B (ints (times L s))) (r2 : L.length ≤ 40) (r1 : L.all isSp = true) (hs : isSp s = true) (h2 : isSp a = true) :
    Calls Try.prog 94 #[.slice A L.length c, .slice B L.length d, .agg #[.int .i64 a.x, .int .i64 a.y]] w fun e w' =>
    ∃ A' c', e = .returned (.slice A' L.length c') ∧ w'.ownsRow w.heap.size 3 1 (.slice A' L.length c') L.length (ints (heard L (times L s) a)) ∧ Below w.heap.size w w' := by
  have := heardTimes_any A c L B d (times L s) a w hm hn r2 r1 (times_off r1 hs) (times_len L s).symm h2
  rw [times_len] at this
  exact this
set_option maxRecDepth 100000 in
set_option maxHeartbeats 3200000 in
theorem spec_BestConductor_any (A : Option Addr) (c : Nat) (L : List Sp) (C : Option Addr) (f : Nat) (M : List Sp) (a : Sp) (w : World) (hm : Mem w A (spots L)) (hp : Mem w C (spots M)) (hl : L.length ≤ 1048576) (hl3 : M.length ≤ 1048576) : Calls Try.prog 63 #[.slice A L.length c, .slice C M.length f, .agg #[.int .i64 a.x, .int .i64 a.y]] w
    fun e w' => e = .returned (.tuple #[.int .i64 (bc1 L M a), .int .i64 (bc2 L M a), .bool (bcOk L M a)]) ∧ Below w.heap.size w w' := by
  obtain ⟨i0, hi, hz0, hz1, hz2⟩ := info_parts info_int
  cases h1 : srcOk L
  · go_enter Try.func63, Try.ntmps63
    go_wp2_with (first | (go_at_call 83; refine (snList_any _ _ L _ (hm.below (by (repeat (first | exact Below.refl _ _ | assumption | (refine Below.alloc ?_ (by first | omega | (simp; done) | (simp; omega)) _) | (refine Below.setCell ?_ (by first | omega | (simp; done) | (simp; omega)) _) | (refine Below.drew ?_) | (refine Below.drewN ?_ _) | (refine Below.next (by assumption) ?_ (by first | omega | (simp; done) | (simp; omega))))))) hl).mono ?_; rintro e w' ⟨rfl, hq⟩; obtain ⟨hz, hc, hf⟩ := bel hq; (try simp at hz); (try have gz1 : w.heap.size < w'.heap.size := by omega); (try have gz2 : w.heap.size + 1 < w'.heap.size := by omega); (try have gz3 : wr.heap.size < w'.heap.size := by omega)) | (go_at_call 83; refine (snList_any _ _ M _ (hp.below (by (repeat (first | exact Below.refl _ _ | assumption | (refine Below.alloc ?_ (by first | omega | (simp; done) | (simp; omega)) _) | (refine Below.setCell ?_ (by first | omega | (simp; done) | (simp; omega)) _) | (refine Below.drew ?_) | (refine Below.drewN ?_ _) | (refine Below.next (by assumption) ?_ (by first | omega | (simp; done) | (simp; omega))))))) hl3).mono ?_; rintro e w' ⟨rfl, hq⟩; obtain ⟨hz, hc, hf⟩ := bel hq; (try simp at hz); (try have gz1 : w.heap.size < w'.heap.size := by omega); (try have gz2 : w.heap.size + 1 < w'.heap.size := by omega); (try have gz3 : wr.heap.size < w'.heap.size := by omega)) | (go_at_call 84; refine (stGood_any _ _).mono ?_; rintro e w' ⟨rfl, o, rfl⟩))
    go_ret3
    exact ⟨ret_three (by simp [bc1, bcOk, h1]) (by simp [bc2, bcOk, h1]) (by simp [bcOk, h1]), by (repeat (first | exact Below.refl _ _ | assumption | (refine Below.alloc ?_ (by first | omega | (simp; done) | (simp; omega)) _) | (refine Below.setCell ?_ (by first | omega | (simp; done) | (simp; omega)) _) | (refine Below.drew ?_) | (refine Below.drewN ?_ _) | (refine Below.next (by assumption) ?_ (by first | omega | (simp; done) | (simp; omega)))))⟩
  obtain ⟨r1, r2, r3⟩ := srcOk_iff.1 h1
  cases h2 : srcOk M
  · go_enter Try.func63, Try.ntmps63
    go_wp2_with fail
    refine (snList_any _ _ L _ (hm.below (by (repeat (first | exact Below.refl _ _ | assumption | (refine Below.alloc ?_ (by first | omega | (simp; done) | (simp; omega)) _) | (refine Below.setCell ?_ (by first | omega | (simp; done) | (simp; omega)) _) | (refine Below.drew ?_) | (refine Below.drewN ?_ _) | (refine Below.next (by assumption) ?_ (by first | omega | (simp; done) | (simp; omega))))))) hl).mono ?_
    rintro e w1 ⟨rfl, hq1⟩
    have hs1 := hq1.size
    (try simp at hs1)
    go_wp2_with fail
    refine (snList_any _ _ M _ (hp.below (by (repeat (first | exact Below.refl _ _ | assumption | (refine Below.alloc ?_ (by first | omega | (simp; done) | (simp; omega)) _) | (refine Below.setCell ?_ (by first | omega | (simp; done) | (simp; omega)) _) | (refine Below.drew ?_) | (refine Below.drewN ?_ _) | (refine Below.next (by assumption) ?_ (by first | omega | (simp; done) | (simp; omega))))))) hl3).mono ?_
    rintro e w2 ⟨rfl, hq2⟩
    have hs2 := hq2.size
    go_wp2
    go_ret3
    exact ⟨ret_three (by simp [bc1, bcOk, h2]) (by simp [bc2, bcOk, h2]) (by simp [bcOk, h2]), by (repeat (first | exact Below.refl _ _ | assumption | (refine Below.alloc ?_ (by first | omega | (simp; done) | (simp; omega)) _) | (refine Below.setCell ?_ (by first | omega | (simp; done) | (simp; omega)) _) | (refine Below.drew ?_) | (refine Below.drewN ?_ _) | (refine Below.next (by assumption) ?_ (by first | omega | (simp; done) | (simp; omega)))))⟩
  obtain ⟨t1, t2, t3⟩ := srcOk_iff.1 h2
  have HT := Lib.hid t1
  have H1 := Lib.hid h1
  have H2 := Lib.hid h2
  clear t1 h1 h2
  cases h3 : isSp a
  all_goals
    go_enter Try.func63, Try.ntmps63
    go_wp2_with fail
    refine (snList_any _ _ L _ (hm.below (by (repeat (first | exact Below.refl _ _ | assumption | (refine Below.alloc ?_ (by first | omega | (simp; done) | (simp; omega)) _) | (refine Below.setCell ?_ (by first | omega | (simp; done) | (simp; omega)) _) | (refine Below.drew ?_) | (refine Below.drewN ?_ _) | (refine Below.next (by assumption) ?_ (by first | omega | (simp; done) | (simp; omega))))))) hl).mono ?_
    rintro e w1 ⟨eL, hq1⟩
    rw [H1.out] at eL
    subst eL
    have hs1 := hq1.size
    (try simp at hs1)
    have q1 : w1.cell? ⟨w.heap.size, 0, none⟩ = some (.int .i64 a.x) := (hq1.cell (by simp)).trans (by simp [go_sem])
    have q2 : w1.cell? ⟨w.heap.size, 1, none⟩ = some (.int .i64 a.y) := (hq1.cell (by simp)).trans (by simp [go_sem])
    go_wp2_with fail
    refine (snList_any _ _ M _ (hp.below (by (repeat (first | exact Below.refl _ _ | assumption | (refine Below.alloc ?_ (by first | omega | (simp; done) | (simp; omega)) _) | (refine Below.setCell ?_ (by first | omega | (simp; done) | (simp; omega)) _) | (refine Below.drew ?_) | (refine Below.drewN ?_ _) | (refine Below.next (by assumption) ?_ (by first | omega | (simp; done) | (simp; omega))))))) hl3).mono ?_
    rintro e w2 ⟨eM, hq2⟩
    rw [H2.out] at eM
    subst eM
    have hs2 := hq2.size
    have q3 := keep1 hq2 q1
    have q4 := keep1 hq2 q2
    have hB2 : Below (w.heap.size + 1) (w.alloc (.cells #[.int .i64 a.x, .int .i64 a.y] 25)) w2 := by (repeat (first | exact Below.refl _ _ | assumption | (refine Below.alloc ?_ (by first | omega | (simp; done) | (simp; omega)) _) | (refine Below.setCell ?_ (by first | omega | (simp; done) | (simp; omega)) _) | (refine Below.drew ?_) | (refine Below.drewN ?_ _) | (refine Below.next (by assumption) ?_ (by first | omega | (simp; done) | (simp; omega)))))
    have hB0 := (boxed hB2).1
    clear hq1 hq2 q1 q2
    go_wp2_with (go_at_call 84; refine (stGood_any _ _).mono ?_; rintro e w' ⟨rfl, o, rfl⟩)
  · go_ret3
    exact ⟨ret_three (by simp [bc1, bcOk, h3]) (by simp [bc2, bcOk, h3]) (by simp [bcOk, h3]), by (repeat (first | exact Below.refl _ _ | assumption | (refine Below.alloc ?_ (by first | omega | (simp; done) | (simp; omega)) _) | (refine Below.setCell ?_ (by first | omega | (simp; done) | (simp; omega)) _) | (refine Below.drew ?_) | (refine Below.drewN ?_ _) | (refine Below.next (by assumption) ?_ (by first | omega | (simp; done) | (simp; omega)))))⟩
  have HV : Hid (bc1 L M a = ((bcTo (bcs L M a) M.length).1 : Int) ∧ bc2 L M a = (bcTo (bcs L M a) M.length).2 ∧ bcOk L M a = true) := Lib.hid (by simp [bc1, bc2, bcOk, H1.out, H2.out, h3])
  have hB3 : Below (w.heap.size + 1) (w.alloc (.cells #[.int .i64 a.x, .int .i64 a.y] 25)) (w2.alloc o) := hB2.alloc (by omega) _
  go_loopw [9, 10, 11, 12, 13, 29] (fun best least _ _ _ i wr => ∃ (k n : Nat) (m : Int), k ≤ M.length ∧ n ≤ 40 ∧ -1 ≤ m ∧ m ≤ 20302 ∧ i = .int .i64 k ∧ best = .int .i64 n ∧ least = .int .i64 m ∧ Below (w.heap.size + 1) (w.alloc (.cells #[.int .i64 a.x, .int .i64 a.y] 25)) wr ∧ Hid (bcTo (bcs L M a) k = (n, m))) (fun _ _ _ _ _ i _ => M.length - (intOf i).toNat)
  case atStart => exact ⟨0, 0, -1, by omega, by omega, by omega, by omega, rfl, rfl, rfl, hB3, Lib.hid rfl⟩
  case round =>
    obtain ⟨k, n, m, hk, hn1, hm1, hm2, rfl, rfl, rfl, hbx, H⟩ := hrel
    obtain ⟨hb, hsz⟩ := boxed hbx
    by_cases hlt : k < M.length
    · obtain ⟨s, hs⟩ := some_of_lt hlt
      obtain ⟨b, off, rfl, e1, e2⟩ := (hp.below hb).spot hs
      have hbl : b < wr.heap.size := World.block_lt_of_cell? wr _ e1
      have q1 : wr.cell? ⟨w.heap.size, 0, none⟩ = some (.int .i64 a.x) := boxed_cell hbx 0
      have q2 : wr.cell? ⟨w.heap.size, 1, none⟩ = some (.int .i64 a.y) := boxed_cell hbx 1
      have hsg := all_at HT.out hs
      have hbd := hspr_bd r3 r1 (times_off r1 hsg) (times_len L s).symm h3
      have HST := Lib.hid (bcTo_succ H.out (bcs_at (L := L) (a := a) hs))
      clear hs
      have hcase : (decide (m < 0) = true ∧ m < 0 ∧ Hid (m < 0 ∨ hspr L (times L s) a < m)) ∨ (decide (m < 0) = false ∧ ¬ m < 0 ∧ hspr L (times L s) a < m ∧ Hid (m < 0 ∨ hspr L (times L s) a < m)) ∨ (decide (m < 0) = false ∧ ¬ m < 0 ∧ ¬ hspr L (times L s) a < m ∧ Hid (¬ (m < 0 ∨ hspr L (times L s) a < m))) := by
        by_cases u1 : m < 0
        · exact .inl ⟨by simpa using u1, u1, Lib.hid (.inl u1)⟩
        · by_cases u2 : hspr L (times L s) a < m
          · exact .inr (.inl ⟨by simpa using u1, u1, u2, Lib.hid (.inr u2)⟩)
          · exact .inr (.inr ⟨by simpa using u1, u1, u2, Lib.hid (by omega)⟩)
      rcases hcase with ⟨u1, u2, HC⟩ | ⟨u1, u2, u3, HC⟩ | ⟨u1, u2, u3, HC⟩
      all_goals
        go_wp2
        go_region_held3 (fun w' => w'.cell? ⟨w.heap.size, 0, none⟩ = some (.int .i64 a.x) ∧ w'.cell? ⟨w.heap.size, 1, none⟩ = some (.int .i64 a.y) ∧ w'.cell? ⟨wr.heap.size, 0, none⟩ = some (.int .i64 s.x) ∧ w'.cell? ⟨wr.heap.size, 1, none⟩ = some (.int .i64 s.y))
          (first | assumption | exact keep4 (by assumption) (by assumption) | (simp [go_sem, *]; done))
          (first 
            | (refine upon_make _ 35 3 i0 (.int .i64 0) 1 Try.underlying35 hi hz0 hz1 _ L.length (by rw [hz2]; omega) (by unfold maxLen; omega) ?_; intro w3 ho3 hg3; have hq3 := grown_below hg3; replace ho3 := made_row (wr.heap.size + 1) ho3 (by simp); have hz3 := hq3.size; (try simp at hz3); (try have hS3 := keep4 hq3 (by assumption)))
            | (go_at_call 96; (refine (lsHeardZ_any _ _ L _ _ s _ (hm.below (by (repeat (first | exact Below.refl _ _ | assumption | (refine Below.alloc ?_ (by first | omega | (simp; done) | (simp; omega)) _) | (refine Below.setCell ?_ (by first | omega | (simp; done) | (simp; omega)) _) | (refine Below.drew ?_) | (refine Below.drewN ?_ _) | (refine Below.next (by assumption) ?_ (by first | omega | (simp; done) | (simp; omega))))))) ((Mem.of_own ho3).below (by (repeat (first | exact Below.refl _ _ | assumption | (refine Below.alloc ?_ (by first | omega | (simp; done) | (simp; omega)) _) | (refine Below.setCell ?_ (by first | omega | (simp; done) | (simp; omega)) _) | (refine Below.drew ?_) | (refine Below.drewN ?_ _) | (refine Below.next (by assumption) ?_ (by first | omega | (simp; done) | (simp; omega))))))) r2 r1 hsg).mono ?_); rintro e w4 ⟨A4, c4, rfl, ho4, hq4⟩; have hz4 := hq4.size; (try simp at hz4); (try have hS4 := keep4 hq4 (by assumption)))
            | (go_at_call 97; refine (lsSpreadT_any _ _ L _ _ s a _ (hm.below (by (repeat (first | exact Below.refl _ _ | assumption | (refine Below.alloc ?_ (by first | omega | (simp; done) | (simp; omega)) _) | (refine Below.setCell ?_ (by first | omega | (simp; done) | (simp; omega)) _) | (refine Below.drew ?_) | (refine Below.drewN ?_ _) | (refine Below.next (by assumption) ?_ (by first | omega | (simp; done) | (simp; omega))))))) ((Mem.of_own ho4).below (by (repeat (first | exact Below.refl _ _ | assumption | (refine Below.alloc ?_ (by first | omega | (simp; done) | (simp; omega)) _) | (refine Below.setCell ?_ (by first | omega | (simp; done) | (simp; omega)) _) | (refine Below.drew ?_) | (refine Below.drewN ?_ _) | (refine Below.next (by assumption) ?_ (by first | omega | (simp; done) | (simp; omega))))))) r2 r3 r1 hsg h3).mono ?_; rintro e w5 ⟨rfl, hq5⟩; have hz5 := hq5.size; (try simp at hz5); (try have hS5 := keep4 hq5 (by assumption))))
        go_wp2
        go_roundw
        case rel => first
          | exact ⟨k + 1, k, hspr L (times L s) a, by omega, by omega, by omega, by omega, by go_num, rfl, rfl, by (repeat (first | exact Below.refl _ _ | assumption | (refine Below.alloc ?_ (by first | omega | (simp; done) | (simp; omega)) _) | (refine Below.setCell ?_ (by first | omega | (simp; done) | (simp; omega)) _) | (refine Below.drew ?_) | (refine Below.drewN ?_ _) | (refine Below.next (by assumption) ?_ (by first | omega | (simp; done) | (simp; omega))))), Lib.hid (by rw [HST.out, if_pos HC.out])⟩
          | exact ⟨k + 1, n, m, by omega, by omega, by omega, by omega, by go_num, rfl, rfl, by (repeat (first | exact Below.refl _ _ | assumption | (refine Below.alloc ?_ (by first | omega | (simp; done) | (simp; omega)) _) | (refine Below.setCell ?_ (by first | omega | (simp; done) | (simp; omega)) _) | (refine Below.drew ?_) | (refine Below.drewN ?_ _) | (refine Below.next (by assumption) ?_ (by first | omega | (simp; done) | (simp; omega))))), Lib.hid (by rw [HST.out, if_neg HC.out])⟩
        case measure => simp [intOf]; omega
    · go_wp2
      go_ret3
      have e1 : k = M.length := by omega
      subst e1
      exact ⟨ret_three (by rw [HV.out.1, H.out]) (by rw [HV.out.2.1, H.out]) HV.out.2.2.symm, hb⟩

set_option maxRecDepth 100000 in
set_option maxHeartbeats 3200000 in
theorem impl_BestConductor_any (A : Option Addr) (c : Nat) (L : List Sp) (C : Option Addr) (f : Nat) (M : List Sp) (a : Sp) (w : World) (hm : Mem w A (spots L)) (hp : Mem w C (spots M)) (hl : L.length ≤ 1048576) (hl3 : M.length ≤ 1048576) : Calls Try.prog 62 #[.slice A L.length c, .slice C M.length f, .agg #[.int .i64 a.x, .int .i64 a.y]] w
    fun e w' => e = .returned (.tuple #[.int .i64 (bc1 L M a), .int .i64 (bc2 L M a), .bool (bcOk L M a)]) ∧ Below w.heap.size w w' := by
  obtain ⟨i0, hi, hz0, hz1, hz2⟩ := info_parts info_int
  cases h1 : srcOk L
  · go_enter Try.func62, Try.ntmps62
    go_wp2_with (first | (go_at_call 80; refine (areSources_any _ _ L _ (hm.below (by (repeat (first | exact Below.refl _ _ | assumption | (refine Below.alloc ?_ (by first | omega | (simp; done) | (simp; omega)) _) | (refine Below.setCell ?_ (by first | omega | (simp; done) | (simp; omega)) _) | (refine Below.drew ?_) | (refine Below.drewN ?_ _) | (refine Below.next (by assumption) ?_ (by first | omega | (simp; done) | (simp; omega))))))) hl).mono ?_; rintro e w' ⟨rfl, hq⟩; obtain ⟨hz, hc, hf⟩ := bel hq; (try simp at hz); (try have gz1 : w.heap.size < w'.heap.size := by omega); (try have gz2 : w.heap.size + 1 < w'.heap.size := by omega); (try have gz3 : wr.heap.size < w'.heap.size := by omega)) | (go_at_call 80; refine (areSources_any _ _ M _ (hp.below (by (repeat (first | exact Below.refl _ _ | assumption | (refine Below.alloc ?_ (by first | omega | (simp; done) | (simp; omega)) _) | (refine Below.setCell ?_ (by first | omega | (simp; done) | (simp; omega)) _) | (refine Below.drew ?_) | (refine Below.drewN ?_ _) | (refine Below.next (by assumption) ?_ (by first | omega | (simp; done) | (simp; omega))))))) hl3).mono ?_; rintro e w' ⟨rfl, hq⟩; obtain ⟨hz, hc, hf⟩ := bel hq; (try simp at hz); (try have gz1 : w.heap.size < w'.heap.size := by omega); (try have gz2 : w.heap.size + 1 < w'.heap.size := by omega); (try have gz3 : wr.heap.size < w'.heap.size := by omega)) | (go_at_call 73; refine (isSpot_any _ _).mono ?_; rintro e w' ⟨rfl, o, rfl⟩))
    go_ret3
    exact ⟨ret_three (by simp [bc1, bcOk, h1]) (by simp [bc2, bcOk, h1]) (by simp [bcOk, h1]), by (repeat (first | exact Below.refl _ _ | assumption | (refine Below.alloc ?_ (by first | omega | (simp; done) | (simp; omega)) _) | (refine Below.setCell ?_ (by first | omega | (simp; done) | (simp; omega)) _) | (refine Below.drew ?_) | (refine Below.drewN ?_ _) | (refine Below.next (by assumption) ?_ (by first | omega | (simp; done) | (simp; omega)))))⟩
  obtain ⟨r1, r2, r3⟩ := srcOk_iff.1 h1
  cases h2 : srcOk M
  · go_enter Try.func62, Try.ntmps62
    go_wp2_with fail
    refine (areSources_any _ _ L _ (hm.below (by (repeat (first | exact Below.refl _ _ | assumption | (refine Below.alloc ?_ (by first | omega | (simp; done) | (simp; omega)) _) | (refine Below.setCell ?_ (by first | omega | (simp; done) | (simp; omega)) _) | (refine Below.drew ?_) | (refine Below.drewN ?_ _) | (refine Below.next (by assumption) ?_ (by first | omega | (simp; done) | (simp; omega))))))) hl).mono ?_
    rintro e w1 ⟨rfl, hq1⟩
    have hs1 := hq1.size
    (try simp at hs1)
    go_wp2_with fail
    refine (areSources_any _ _ M _ (hp.below (by (repeat (first | exact Below.refl _ _ | assumption | (refine Below.alloc ?_ (by first | omega | (simp; done) | (simp; omega)) _) | (refine Below.setCell ?_ (by first | omega | (simp; done) | (simp; omega)) _) | (refine Below.drew ?_) | (refine Below.drewN ?_ _) | (refine Below.next (by assumption) ?_ (by first | omega | (simp; done) | (simp; omega))))))) hl3).mono ?_
    rintro e w2 ⟨rfl, hq2⟩
    have hs2 := hq2.size
    go_wp2
    go_ret3
    exact ⟨ret_three (by simp [bc1, bcOk, h2]) (by simp [bc2, bcOk, h2]) (by simp [bcOk, h2]), by (repeat (first | exact Below.refl _ _ | assumption | (refine Below.alloc ?_ (by first | omega | (simp; done) | (simp; omega)) _) | (refine Below.setCell ?_ (by first | omega | (simp; done) | (simp; omega)) _) | (refine Below.drew ?_) | (refine Below.drewN ?_ _) | (refine Below.next (by assumption) ?_ (by first | omega | (simp; done) | (simp; omega)))))⟩
  obtain ⟨t1, t2, t3⟩ := srcOk_iff.1 h2
  have HT := Lib.hid t1
  have H1 := Lib.hid h1
  have H2 := Lib.hid h2
  clear t1 h1 h2
  cases h3 : isSp a
  all_goals
    go_enter Try.func62, Try.ntmps62
    go_wp2_with fail
    refine (areSources_any _ _ L _ (hm.below (by (repeat (first | exact Below.refl _ _ | assumption | (refine Below.alloc ?_ (by first | omega | (simp; done) | (simp; omega)) _) | (refine Below.setCell ?_ (by first | omega | (simp; done) | (simp; omega)) _) | (refine Below.drew ?_) | (refine Below.drewN ?_ _) | (refine Below.next (by assumption) ?_ (by first | omega | (simp; done) | (simp; omega))))))) hl).mono ?_
    rintro e w1 ⟨eL, hq1⟩
    rw [H1.out] at eL
    subst eL
    have hs1 := hq1.size
    (try simp at hs1)
    have q1 : w1.cell? ⟨w.heap.size, 0, none⟩ = some (.int .i64 a.x) := (hq1.cell (by simp)).trans (by simp [go_sem])
    have q2 : w1.cell? ⟨w.heap.size, 1, none⟩ = some (.int .i64 a.y) := (hq1.cell (by simp)).trans (by simp [go_sem])
    go_wp2_with fail
    refine (areSources_any _ _ M _ (hp.below (by (repeat (first | exact Below.refl _ _ | assumption | (refine Below.alloc ?_ (by first | omega | (simp; done) | (simp; omega)) _) | (refine Below.setCell ?_ (by first | omega | (simp; done) | (simp; omega)) _) | (refine Below.drew ?_) | (refine Below.drewN ?_ _) | (refine Below.next (by assumption) ?_ (by first | omega | (simp; done) | (simp; omega))))))) hl3).mono ?_
    rintro e w2 ⟨eM, hq2⟩
    rw [H2.out] at eM
    subst eM
    have hs2 := hq2.size
    have q3 := keep1 hq2 q1
    have q4 := keep1 hq2 q2
    have hB2 : Below (w.heap.size + 1) (w.alloc (.cells #[.int .i64 a.x, .int .i64 a.y] 25)) w2 := by (repeat (first | exact Below.refl _ _ | assumption | (refine Below.alloc ?_ (by first | omega | (simp; done) | (simp; omega)) _) | (refine Below.setCell ?_ (by first | omega | (simp; done) | (simp; omega)) _) | (refine Below.drew ?_) | (refine Below.drewN ?_ _) | (refine Below.next (by assumption) ?_ (by first | omega | (simp; done) | (simp; omega)))))
    have hB0 := (boxed hB2).1
    clear hq1 hq2 q1 q2
    go_wp2_with (go_at_call 73; refine (isSpot_any _ _).mono ?_; rintro e w' ⟨rfl, o, rfl⟩)
  · go_ret3
    exact ⟨ret_three (by simp [bc1, bcOk, h3]) (by simp [bc2, bcOk, h3]) (by simp [bcOk, h3]), by (repeat (first | exact Below.refl _ _ | assumption | (refine Below.alloc ?_ (by first | omega | (simp; done) | (simp; omega)) _) | (refine Below.setCell ?_ (by first | omega | (simp; done) | (simp; omega)) _) | (refine Below.drew ?_) | (refine Below.drewN ?_ _) | (refine Below.next (by assumption) ?_ (by first | omega | (simp; done) | (simp; omega)))))⟩
  have HV : Hid (bc1 L M a = ((bcTo (bcs L M a) M.length).1 : Int) ∧ bc2 L M a = (bcTo (bcs L M a) M.length).2 ∧ bcOk L M a = true) := Lib.hid (by simp [bc1, bc2, bcOk, H1.out, H2.out, h3])
  have hB3 : Below (w.heap.size + 1) (w.alloc (.cells #[.int .i64 a.x, .int .i64 a.y] 25)) (w2.alloc o) := hB2.alloc (by omega) _
  go_loopw [9, 10, 11, 12, 13, 14, 30] (fun best least _ _ _ _ i wr => ∃ (k n : Nat) (m : Int), k ≤ M.length ∧ n ≤ 40 ∧ -1 ≤ m ∧ m ≤ 20302 ∧ i = .int .i64 k ∧ best = .int .i64 n ∧ least = .int .i64 m ∧ Below (w.heap.size + 1) (w.alloc (.cells #[.int .i64 a.x, .int .i64 a.y] 25)) wr ∧ Hid (bcTo (bcs L M a) k = (n, m))) (fun _ _ _ _ _ _ i _ => M.length - (intOf i).toNat)
  case atStart => exact ⟨0, 0, -1, by omega, by omega, by omega, by omega, rfl, rfl, rfl, hB3, Lib.hid rfl⟩
  case round =>
    obtain ⟨k, n, m, hk, hn1, hm1, hm2, rfl, rfl, rfl, hbx, H⟩ := hrel
    obtain ⟨hb, hsz⟩ := boxed hbx
    by_cases hlt : k < M.length
    · obtain ⟨s, hs⟩ := some_of_lt hlt
      obtain ⟨b, off, rfl, e1, e2⟩ := (hp.below hb).spot hs
      have hbl : b < wr.heap.size := World.block_lt_of_cell? wr _ e1
      have q1 : wr.cell? ⟨w.heap.size, 0, none⟩ = some (.int .i64 a.x) := boxed_cell hbx 0
      have q2 : wr.cell? ⟨w.heap.size, 1, none⟩ = some (.int .i64 a.y) := boxed_cell hbx 1
      have hsg := all_at HT.out hs
      have hbd := hspr_bd r3 r1 (times_off r1 hsg) (times_len L s).symm h3
      have HST := Lib.hid (bcTo_succ H.out (bcs_at (L := L) (a := a) hs))
      clear hs
      have hcase : (decide (m < 0) = true ∧ m < 0 ∧ Hid (m < 0 ∨ hspr L (times L s) a < m)) ∨ (decide (m < 0) = false ∧ ¬ m < 0 ∧ hspr L (times L s) a < m ∧ Hid (m < 0 ∨ hspr L (times L s) a < m)) ∨ (decide (m < 0) = false ∧ ¬ m < 0 ∧ ¬ hspr L (times L s) a < m ∧ Hid (¬ (m < 0 ∨ hspr L (times L s) a < m))) := by
        by_cases u1 : m < 0
        · exact .inl ⟨by simpa using u1, u1, Lib.hid (.inl u1)⟩
        · by_cases u2 : hspr L (times L s) a < m
          · exact .inr (.inl ⟨by simpa using u1, u1, u2, Lib.hid (.inr u2)⟩)
          · exact .inr (.inr ⟨by simpa using u1, u1, u2, Lib.hid (by omega)⟩)
      rcases hcase with ⟨u1, u2, HC⟩ | ⟨u1, u2, u3, HC⟩ | ⟨u1, u2, u3, HC⟩
      all_goals
        go_wp2
        go_region_held3 (fun w' => w'.cell? ⟨w.heap.size, 0, none⟩ = some (.int .i64 a.x) ∧ w'.cell? ⟨w.heap.size, 1, none⟩ = some (.int .i64 a.y) ∧ w'.cell? ⟨wr.heap.size, 0, none⟩ = some (.int .i64 s.x) ∧ w'.cell? ⟨wr.heap.size, 1, none⟩ = some (.int .i64 s.y))
          (first | assumption | exact keep4 (by assumption) (by assumption) | (simp [go_sem, *]; done))
          (first 
            | (go_at_call 82; refine (timesAt_any _ _ L s _ (hm.below (by (repeat (first | exact Below.refl _ _ | assumption | (refine Below.alloc ?_ (by first | omega | (simp; done) | (simp; omega)) _) | (refine Below.setCell ?_ (by first | omega | (simp; done) | (simp; omega)) _) | (refine Below.drew ?_) | (refine Below.drewN ?_ _) | (refine Below.next (by assumption) ?_ (by first | omega | (simp; done) | (simp; omega))))))) r2 r1 hsg).mono ?_; rintro e w3 ⟨A3, c3, rfl, ho3, hq3⟩; have hz3 := hq3.size; (try simp at hz3); (try have hS3 := keep4 hq3 (by assumption)))
            | (go_at_call 94; refine (heardTimesT_any _ _ L _ _ s a _ (hm.below (by (repeat (first | exact Below.refl _ _ | assumption | (refine Below.alloc ?_ (by first | omega | (simp; done) | (simp; omega)) _) | (refine Below.setCell ?_ (by first | omega | (simp; done) | (simp; omega)) _) | (refine Below.drew ?_) | (refine Below.drewN ?_ _) | (refine Below.next (by assumption) ?_ (by first | omega | (simp; done) | (simp; omega))))))) ((Mem.of_own ho3).below (by (repeat (first | exact Below.refl _ _ | assumption | (refine Below.alloc ?_ (by first | omega | (simp; done) | (simp; omega)) _) | (refine Below.setCell ?_ (by first | omega | (simp; done) | (simp; omega)) _) | (refine Below.drew ?_) | (refine Below.drewN ?_ _) | (refine Below.next (by assumption) ?_ (by first | omega | (simp; done) | (simp; omega))))))) r2 r1 hsg h3).mono ?_; rintro e w4 ⟨A4, c4, rfl, ho4, hq4⟩; have hz4 := hq4.size; (try simp at hz4); (try have hS4 := keep4 hq4 (by assumption)))
            | (go_at_call 81; refine (spreadHeard_any _ _ L (times L s) a _ ((Mem.of_own ho4).below (by (repeat (first | exact Below.refl _ _ | assumption | (refine Below.alloc ?_ (by first | omega | (simp; done) | (simp; omega)) _) | (refine Below.setCell ?_ (by first | omega | (simp; done) | (simp; omega)) _) | (refine Below.drew ?_) | (refine Below.drewN ?_ _) | (refine Below.next (by assumption) ?_ (by first | omega | (simp; done) | (simp; omega))))))) r2 r3 r1 (times_off r1 hsg) (times_len L s).symm h3).mono ?_; rintro e w5 ⟨rfl, hq5⟩; have hz5 := hq5.size; (try simp at hz5); (try have hS5 := keep4 hq5 (by assumption))))
        go_wp2
        go_roundw
        case rel => first
          | exact ⟨k + 1, k, hspr L (times L s) a, by omega, by omega, by omega, by omega, by go_num, rfl, rfl, by (repeat (first | exact Below.refl _ _ | assumption | (refine Below.alloc ?_ (by first | omega | (simp; done) | (simp; omega)) _) | (refine Below.setCell ?_ (by first | omega | (simp; done) | (simp; omega)) _) | (refine Below.drew ?_) | (refine Below.drewN ?_ _) | (refine Below.next (by assumption) ?_ (by first | omega | (simp; done) | (simp; omega))))), Lib.hid (by rw [HST.out, if_pos HC.out])⟩
          | exact ⟨k + 1, n, m, by omega, by omega, by omega, by omega, by go_num, rfl, rfl, by (repeat (first | exact Below.refl _ _ | assumption | (refine Below.alloc ?_ (by first | omega | (simp; done) | (simp; omega)) _) | (refine Below.setCell ?_ (by first | omega | (simp; done) | (simp; omega)) _) | (refine Below.drew ?_) | (refine Below.drewN ?_ _) | (refine Below.next (by assumption) ?_ (by first | omega | (simp; done) | (simp; omega))))), Lib.hid (by rw [HST.out, if_neg HC.out])⟩
        case measure => simp [intOf]; omega
    · go_wp2
      go_ret3
      have e1 : k = M.length := by omega
      subst e1
      exact ⟨ret_three (by rw [HV.out.1, H.out]) (by rw [HV.out.2.1, H.out]) HV.out.2.2.symm, hb⟩

end Go.Proofs.Ytdipmjflgjlfeaa
