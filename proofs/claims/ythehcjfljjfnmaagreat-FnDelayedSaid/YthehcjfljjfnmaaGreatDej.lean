/-
  Contracts: the pairs of performers who come too close with delays.
-/
import Derived.Test.YthehcjfljjfnmaaGreatDei
import Derived.Test.YthehcjfljjfnmaaGreatMvs
import Derived.Test.YthehcjfljjfnmaaGreatTrl
import Derived.Test.YthehcjfljjfnmaaGreatBase
namespace Go.Proofs.YthehcjfljjfnmaaGreat
open Go.RowKit Go.Sort Go.Lib

def clAt (m : List Mv) (D : List Int) (L : Int) (i k : Nat) : Bool := clB (m.getD i ⟨⟨0, 0⟩, ⟨0, 0⟩, 0⟩) (m.getD k ⟨⟨0, 0⟩, ⟨0, 0⟩, 0⟩) (D.getD i 0) (D.getD k 0) L
def clRow (m : List Mv) (D : List Int) (L : Int) (i : Nat) : Nat → List (Nat × Nat)
  | 0 => []
  | k + 1 => if decide (i < k) && clAt m D L i k then clRow m D L i k ++ [(i, k)] else clRow m D L i k
def clTo (m : List Mv) (D : List Int) (L : Int) (N : Nat) : Nat → List (Nat × Nat)
  | 0 => []
  | i + 1 => clTo m D L N i ++ clRow m D L i N
def clV (F T : List Sp) (n : Int) (P D : List Int) (L : Int) : List (Nat × Nat) := clTo (mvT F T n P) D L P.length P.length
theorem clRow_nil (m : List Mv) (D : List Int) (L : Int) (i : Nat) : ∀ k, k ≤ i + 1 → clRow m D L i k = []
  | 0, _ => rfl
  | k + 1, h => by rw [clRow, clRow_nil m D L i k (by omega), if_neg (by simp; omega)]
theorem clRow_len (m : List Mv) (D : List Int) (L : Int) (i : Nat) : ∀ k, (clRow m D L i k).length ≤ k
  | 0 => by simp [clRow]
  | k + 1 => by
    have := clRow_len m D L i k
    rw [clRow]; split
    · simp; omega
    · omega
theorem clTo_len (m : List Mv) (D : List Int) (L : Int) {N : Nat} (h : N ≤ 6) : ∀ i, (clTo m D L N i).length ≤ 6 * i
  | 0 => by simp [clTo]
  | i + 1 => by
    have := clTo_len m D L h i
    have := clRow_len m D L i N
    rw [clTo, List.length_append]; omega
theorem clRow_yes {m : List Mv} {D : List Int} {L : Int} {i k : Nat} (hk : i < k) (h : clAt m D L i k = true) : clRow m D L i (k + 1) = clRow m D L i k ++ [(i, k)] := by rw [clRow, if_pos (by simp [hk, h])]
theorem clRow_no {m : List Mv} {D : List Int} {L : Int} {i k : Nat} (h : clAt m D L i k = false) : clRow m D L i (k + 1) = clRow m D L i k := by rw [clRow, if_neg (by simp [h])]
theorem clAt_eq {m : List Mv} {D : List Int} {i k : Nat} {a b : Mv} {p q : Int} (h1 : m[i]? = some a) (h2 : m[k]? = some b) (h3 : D[i]? = some p) (h4 : D[k]? = some q) (L : Int) : clAt m D L i k = clB a b p q L := by
  simp only [clAt, List.getD_eq_getElem?_getD, h1, h2, h3, h4, Option.getD_some]
theorem sp_getD {F : List Sp} (h : F.all isSp = true) (i : Nat) : isSp (F.getD i ⟨0, 0⟩) = true := by
  rw [List.getD_eq_getElem?_getD]
  cases hF : F[i]? with
  | none => rfl
  | some s => exact List.all_eq_true.1 h s (List.mem_of_getElem? hF)
theorem mvT_ok {F T : List Sp} {n : Int} {P : List Int} (h : rpOk F T n P = true) {k : Nat} {v : Mv} (hv : (mvT F T n P)[k]? = some v) : mvOk v := by
  obtain ⟨h1, h2, h3⟩ := rpOk_iff.1 h
  obtain ⟨h4, h5, h6, h7, h8⟩ := trOk_iff.1 h1
  simp only [mvT, List.getElem?_map, Option.map_eq_some_iff] at hv
  obtain ⟨i, _, rfl⟩ := hv
  exact ⟨sp_getD (ch_all h4) _, sp_getD (ch_all h5) _, h7.1, h2⟩

theorem wpList_append_blk {P : Program} (w : World) {ops : Array Oper} {rest : List Oper} {o : Oper} {a : Act} {Q : Exit → Act → World → Prop} (hgd : o.guard = none) (s x : Operand) (t : TypeId)
    (ho : o.op = .call { callee := .builtin .append, args := #[s, x], argTypes := #[t, t] })
    (base : Nat) (e : TypeId) (i : TypeInfo) (z : Value) (size bytes : Nat) (ht : P.underlying t = some (.slice e)) (hi : P.info? e = some i) (hz : i.zero = some z)
    (hsize : i.size = size) (hby : i.bytes = bytes) (hzs : z.cells.size = size) (hsz : 0 < size)
    (v : Value) (n : Nat) (xs : List Value) (hs : a.eval s = v) (hown : w.ownsRow base e size v n xs)
    (news : Array Value) (te : TypeId) (c : Nat) (hx : a.eval x = .slice (some ⟨w.heap.size, 0, none⟩) 1 c) (hl : news.size = size) (h1 : news.toList.all Value.oneCell' = true)
    (h63 : n ≤ 1073741824) (hbytes : bytes ≤ 65536) (hbase : base ≤ w.heap.size)
    (h : ∀ v' w', w'.ownsRow base e size v' (n + 1) (xs ++ news.toList) → Below base w w' → (∀ A ys, Far w v A ys → Far w' v' A ys) → (∀ b cs t, Blk w b cs t → v.ownBlock ≠ some b → Blk w' b cs t ∧ v'.ownBlock ≠ some b) → wpList P ops Q rest (a.put o.dst v') w') : wpList P ops Q (o :: rest) a (w.alloc (.cells news te)) := by
  have hb2 : (n + 1) * bytes ≤ 140737488355328 := Nat.le_trans (Nat.mul_le_mul (Nat.succ_le_succ h63) hbytes) (by decide)
  refine wpList_append_own_at _ hgd s x t ho base e i z size bytes ht hi hz hsize hby hzs hsz v n xs hs (hown.alloc _) ⟨w.heap.size, 0, none⟩ 1 c news.toList hx (by simpa using hl) ?_ ?_ (by unfold maxLen; omega) hb2 (by simp; omega) ?_
  · intro j u hu
    rw [Addr.add_lit, Nat.zero_add, cell_of_row _ w.heap.size j news te (0, 0) (heap_alloc_new w _)]
    simpa using hu
  · intro u hu
    exact List.all_eq_true.1 h1 u hu
  · intro v' w' ho' hg _ hat
    refine h v' w' ho' (((Below.refl base w).alloc hbase _).grown hg (by simp; omega) (fun k hk => ?_)) (fun A ys hf => ?_) (fun b cs t hb hne => ⟨?_, ?_⟩)
    · exact (hown.lt k hk).1
    · have h2 := hf.below (w' := w.alloc (.cells news te)) ((Below.refl _ _).alloc (Nat.le_refl _) _)
      refine ⟨mem_grown h2.mem hg (fun b off hA heq => h2.ne b b off heq.symm hA rfl), fun b off e => Nat.lt_of_lt_of_le (h2.lt b off e) hg.size, fun j b off hj hA => ?_⟩
      rcases hat with hat | hat
      · rw [hat] at hj; exact h2.ne j b off hj hA
      · rw [hat] at hj
        have h3 := hf.lt b off hA
        have h4 : (w.alloc (.cells news te)).heap.size = j := Option.some.inj hj
        simp at h4
        omega
    · have hb2 := hb.alloc (.cells news te)
      exact (hg.block b hb2.lt (fun e => hne e.symm)).trans hb2
    · rcases hat with hat | hat
      · rw [hat]; exact hne
      · rw [hat]
        intro e
        have h3 := hb.lt
        have h4 : (w.alloc (.cells news te)).heap.size = b := Option.some.inj e
        simp at h4
        omega
/-- Pairs as a slice of slices: each in a block of its own, later ones behind. -/
def PrOk (w : World) (base : Nat) (v : Value) (vals : List Value) (V : List (Nat × Nat)) : Prop :=
  ∃ bs : List Nat, vals = bs.map (fun b => Value.slice (some ⟨b, 0, none⟩) 2 2) ∧ bs.length = V.length ∧ (∀ b, b ∈ bs → base ≤ b) ∧ bs.Pairwise (· < ·) ∧
    ∀ (i b : Nat) (x : Nat × Nat), bs[i]? = some b → V[i]? = some x → Blk w b #[.int .i64 (x.1 : Int), .int .i64 (x.2 : Int)] 3 ∧ v.ownBlock ≠ some b
theorem PrOk.nil (w : World) (base : Nat) (v : Value) : PrOk w base v [] [] := ⟨[], rfl, rfl, by simp, by simp, by simp⟩
theorem PrOk.below {w w' : World} {base : Nat} {v : Value} {vals : List Value} {V : List (Nat × Nat)} (h : PrOk w base v vals V) (hb : Below w.heap.size w w') : PrOk w' base v vals V := by
  obtain ⟨bs, h1, h2, h3, h4, h5⟩ := h
  exact ⟨bs, h1, h2, h3, h4, fun i b x e1 e2 => ⟨(h5 i b x e1 e2).1.below hb (h5 i b x e1 e2).1.lt, (h5 i b x e1 e2).2⟩⟩
theorem PrOk.snoc {w w1 w' : World} {base : Nat} {v v' : Value} {vals : List Value} {V : List (Nat × Nat)} {i k : Nat} (h : PrOk w base v vals V) (hw1 : w1 = w.alloc (.cells #[.int .i64 i, .int .i64 k] 3)) (hbase : base ≤ w.heap.size) (hv : ∀ j, v.ownBlock = some j → j < w.heap.size)
    (hblk : ∀ b cs t, Blk w1 b cs t → v.ownBlock ≠ some b → Blk w' b cs t ∧ v'.ownBlock ≠ some b) : PrOk w' base v' (vals ++ [.slice (some ⟨w.heap.size, 0, none⟩) 2 2]) (V ++ [(i, k)]) := by
  obtain ⟨bs, h1, h2, h3, h4, h5⟩ := h
  have hlt : ∀ b, b ∈ bs → b < w.heap.size := by
    intro b hb
    obtain ⟨j, hj⟩ := List.getElem?_of_mem hb
    obtain ⟨x, hx⟩ := some_of_lt (L := V) (k := j) (by rw [← h2]; exact (List.getElem?_eq_some_iff.1 hj).1)
    exact (h5 j b x hj hx).1.lt
  refine ⟨bs ++ [w.heap.size], by rw [h1]; simp, by simp [h2], ?_, ?_, ?_⟩
  · intro b hb
    rcases List.mem_append.1 hb with hb | hb
    · exact h3 b hb
    · simp at hb; omega
  · rw [List.pairwise_append]
    exact ⟨h4, by simp, fun a ha b hb => by simp at hb; subst hb; exact hlt a ha⟩
  · intro j b x e1 e2
    by_cases hj : j < bs.length
    · rw [List.getElem?_append_left hj] at e1
      rw [List.getElem?_append_left (by omega)] at e2
      exact hblk _ _ _ (by rw [hw1]; exact (h5 j b x e1 e2).1.alloc _) (h5 j b x e1 e2).2
    · have hj2 : j = bs.length := by
        have := (List.getElem?_eq_some_iff.1 e1).1
        simp at this; omega
      subst hj2
      rw [List.getElem?_append_right (by omega)] at e1
      rw [List.getElem?_append_right (by omega)] at e2
      simp at e1
      simp [h2] at e2
      subst e1
      subst e2
      exact hblk _ _ _ (by rw [hw1]; exact Blk.new w _ _) (fun e => by have := hv _ e; omega)
theorem Far.of_row {w w' : World} {v : Value} {A : Option Addr} {xs : List Value} {base : Nat} {e : TypeId} {size n c : Nat} (h : w.ownsRow base e size (.slice A n c) n xs) (hb : Below w.heap.size w w') (hv : ∀ j, v.ownBlock = some j → w.heap.size ≤ j) : Far w' v A xs := by
  have hk : ∀ b o, A = some ⟨b, o, none⟩ → b < w.heap.size := fun b o e => by
    subst e
    exact (h.lt b rfl).2
  exact ⟨(Mem.of_own h).below hb, fun b o e => Nat.lt_of_lt_of_le (hk b o e) hb.size, fun j b o hj e => by have := hv j hj; have := hk b o e; omega⟩
theorem Far.new {w : World} {v : Value} (cs : Array Value) (t : TypeId) (hv : ∀ j, v.ownBlock = some j → j < w.heap.size) : Far (w.alloc (.cells cs t)) v (some ⟨w.heap.size, 0, none⟩) cs.toList := by
  refine ⟨fun _ => ⟨_, _, rfl, ?_⟩, ?_, ?_⟩
  · intro j u hu
    have h := boxed_cell (w := w) (cs := cs) (t := t) (Below.refl _ _) j
    rw [Nat.zero_add, h]
    simpa using hu
  · intro b o e
    simp at e
    simp; omega
  · intro j b o hj e
    have := hv j hj
    simp at e
    omega
/-- A call hands back pairs in memory of its own. -/
def RetPairs (w : World) (V : List (Nat × Nat)) (e : Ending) (w' : World) : Prop :=
  ∃ A' c' vals, e = .returned (.slice A' V.length c') ∧ w'.ownsRow w.heap.size 32 1 (.slice A' V.length c') V.length vals ∧ PrOk w' w.heap.size (.slice A' V.length c') vals V ∧ Below w.heap.size w w'
theorem PrOk.base {w : World} {base base' : Nat} {v : Value} {vals : List Value} {V : List (Nat × Nat)} (h : PrOk w base v vals V) (hb : base' ≤ base) : PrOk w base' v vals V := by
  obtain ⟨bs, h1, h2, h3, h4, h5⟩ := h
  exact ⟨bs, h1, h2, fun b hb' => Nat.le_trans hb (h3 b hb'), h4, h5⟩
theorem RetPairs.mk {w w' : World} {V : List (Nat × Nat)} {v : Value} {n base : Nat} {vals : List Value} (ho : w'.ownsRow base 32 1 v n vals) (hp : PrOk w' base v vals V) (hn : n = V.length) (hbase : w.heap.size ≤ base) (hb : Below w.heap.size w w') : RetPairs w V (.returned v) w' := by
  subst hn
  obtain ⟨A', c', rfl⟩ := own_form ho
  exact ⟨A', c', vals, rfl, own_base ho hbase, hp.base hbase, hb⟩
theorem info_intss : (Tryz.prog.info? 32).map (fun i => (i.zero, i.size, i.bytes)) = some (some (.slice none 0 0), 1, 24) := by kernel_rfl

set_option maxRecDepth 100000 in
set_option maxHeartbeats 6400000 in
theorem rpClose_any (A : Option Addr) (c : Nat) (F : List Sp) (B : Option Addr) (d : Nat) (T : List Sp) (n : Int) (C : Option Addr) (f : Nat) (P : List Int) (E : Option Addr) (g : Nat) (D : List Int) (L : Int) (w : World) (hf : Mem w A (spots F)) (ht : Mem w B (spots T)) (hp : Mem w C (ints P)) (lf : F.length ≤ 1048576) (lt : T.length ≤ 1048576) (lp : P.length ≤ 1048576) (hfc : F.length ≤ c) (htc : T.length ≤ d) (hpc : P.length ≤ f) (hd : Mem w E (ints D)) (ld : D.length ≤ 1048576) (hok : dlOk F T n P D = true) (L0 : 0 ≤ L) (L1 : L ≤ 80) : Calls Tryz.prog 41 #[.agg #[.slice A F.length c, .slice B T.length d, .int .i64 n, .slice C P.length f], .slice E D.length g, .int .i64 L] w (RetPairs w (clV F T n P D L)) := by
  obtain ⟨i0, hi, hz0, hz1, hz2⟩ := info_parts info_intss
  have HDL := Lib.hid (dlOk_iff.1 hok)
  have HRP := Lib.hid HDL.out.1
  have HTR := Lib.hid (rpOk_iff.1 HRP.out).1
  have HPL := Lib.hid (plOk_iff.1 (trOk_iff.1 HTR.out).2.2.2.2).2
  have hp6 : P.length ≤ 6 := by have := HPL.out; have := (rpOk_iff.1 HRP.out).2.2; omega
  have HDP : Hid (D.length = P.length) := Lib.hid (by have := HPL.out; have := HDL.out.2.1; omega)
  clear hok
  go_enter Tryz.func41, Tryz.ntmps41
  go_wp2_with fail
  refine (asMoves_any A c F B d T n C f P _ (hf.below (by (repeat (first | exact Below.refl _ _ | assumption | (refine Below.alloc ?_ (by first | omega | (simp; done) | (simp; omega)) _) | (refine Below.setCell ?_ (by first | omega | (simp; done) | (simp; omega)) _) | (refine Below.drew ?_) | (refine Below.drewN ?_ _) | (refine Below.next (by assumption) ?_ (by first | omega | (simp; done) | (simp; omega))))))) (ht.below (by (repeat (first | exact Below.refl _ _ | assumption | (refine Below.alloc ?_ (by first | omega | (simp; done) | (simp; omega)) _) | (refine Below.setCell ?_ (by first | omega | (simp; done) | (simp; omega)) _) | (refine Below.drew ?_) | (refine Below.drewN ?_ _) | (refine Below.next (by assumption) ?_ (by first | omega | (simp; done) | (simp; omega))))))) (hp.below (by (repeat (first | exact Below.refl _ _ | assumption | (refine Below.alloc ?_ (by first | omega | (simp; done) | (simp; omega)) _) | (refine Below.setCell ?_ (by first | omega | (simp; done) | (simp; omega)) _) | (refine Below.drew ?_) | (refine Below.drewN ?_ _) | (refine Below.next (by assumption) ?_ (by first | omega | (simp; done) | (simp; omega))))))) lf lt lp hfc htc hpc HTR.out).mono ?_
  rintro e w1 ⟨A3, c3, rfl, ho3, hq3⟩
  rw [mvT_len] at ho3 ⊢
  have hb1 : Below w.heap.size w w1 := by (repeat (first | exact Below.refl _ _ | assumption | (refine Below.alloc ?_ (by first | omega | (simp; done) | (simp; omega)) _) | (refine Below.setCell ?_ (by first | omega | (simp; done) | (simp; omega)) _) | (refine Below.drew ?_) | (refine Below.drewN ?_ _) | (refine Below.next (by assumption) ?_ (by first | omega | (simp; done) | (simp; omega)))))
  have hs1 := hb1.size

  have HO := Lib.hid (show w1.ownsRow w1.heap.size 32 1 (.slice none 0 0) 0 [] from World.ownsRow_nil _ _ _ _)
  have HF := Lib.hid (show Far w1 (.slice none 0 0) A3 (moves (mvT F T n P)) from Far.of_row ho3 (Below.refl _ _) (fun j hj => by simp [Value.ownBlock] at hj))
  have hbw : Below w1.heap.size w1 w1 := (Below.refl _ _)
  clear ho3 hq3
  go_wp2_with fail
  go_loopw [8, 9, 10, 11, 16] (fun v _ _ _ i_ wr => ∃ (i j : Nat) (vals : List Value), i ≤ P.length ∧ i_ = .int .i64 i ∧ wr.ownsRow w1.heap.size 32 1 v j vals ∧ Hid (j = (clTo (mvT F T n P) D L P.length i).length) ∧ j ≤ 6 * i ∧ Hid (PrOk wr w1.heap.size v vals (clTo (mvT F T n P) D L P.length i)) ∧ Hid (Far wr v A3 (moves (mvT F T n P))) ∧ Below w1.heap.size w1 wr) (fun _ _ _ _ i _ => P.length - (intOf i).toNat)
  case atStart => exact ⟨0, 0, [], by omega, rfl, HO.out, Lib.hid rfl, by omega, Lib.hid (PrOk.nil _ _ _), HF, hbw⟩
  case round =>
    obtain ⟨i, j, vals, hki, rfl, hown, HJ, hj, HP, HF1, hbx⟩ := hrel
    clear HO HF hbw
    rename World => WO
    have hsz := hbx.size
    have hml := Lib.hid (mvT_len F T n P)
    by_cases hlt : i < P.length
    · obtain ⟨a, ha⟩ := some_of_lt (L := mvT F T n P) (k := i) (by rw [hml.out]; exact hlt)
      have HMA := Lib.hid (mvT_ok HRP.out ha)
      have HVI := Lib.hid ha
      have hjl : j ≤ 36 := by omega
      obtain ⟨b5, o5, rfl, e0, e1, e2, e3, e4⟩ := HF1.out.mem.move ha
      have HOI := Lib.hid (own_below hown ((Below.refl _ _).alloc (Nat.le_refl _) (.cells #[.int .i64 a.f.x, .int .i64 a.f.y, .int .i64 a.t.x, .int .i64 a.t.y, .int .i64 a.c] 26)))
      have HPI := Lib.hid (HP.out.below ((Below.refl _ _).alloc (Nat.le_refl _) (.cells #[.int .i64 a.f.x, .int .i64 a.f.y, .int .i64 a.t.x, .int .i64 a.t.y, .int .i64 a.c] 26)))
      have HFI := Lib.hid (HF1.out.below ((Below.refl _ _).alloc (Nat.le_refl _) (.cells #[.int .i64 a.f.x, .int .i64 a.f.y, .int .i64 a.t.x, .int .i64 a.t.y, .int .i64 a.c] 26)))
      have HFB := Lib.hid (show Far (WO.alloc (.cells #[.int .i64 a.f.x, .int .i64 a.f.y, .int .i64 a.t.x, .int .i64 a.t.y, .int .i64 a.c] 26)) _ (some ⟨WO.heap.size, 0, none⟩) (moves [a]) from Far.new _ _ (fun j hj => (hown.lt j hj).2))
      have hbI : Below w1.heap.size w1 (WO.alloc (.cells #[.int .i64 a.f.x, .int .i64 a.f.y, .int .i64 a.t.x, .int .i64 a.t.y, .int .i64 a.c] 26)) := hbx.alloc hsz _
      clear ha
      go_wp2_with fail
      clear hown
      go_loopw [8, 11] (fun v k_ wr => ∃ (k j : Nat) (vals : List Value), i + 1 ≤ k ∧ k ≤ P.length ∧ k_ = .int .i64 k ∧ wr.ownsRow w1.heap.size 32 1 v j vals ∧ Hid (j = (clTo (mvT F T n P) D L P.length i ++ clRow (mvT F T n P) D L i k).length) ∧ j ≤ 36 + k ∧ Hid (PrOk wr w1.heap.size v vals (clTo (mvT F T n P) D L P.length i ++ clRow (mvT F T n P) D L i k)) ∧ Hid (Far wr v (some ⟨b5, o5, none⟩) (moves (mvT F T n P))) ∧ Hid (Far wr v (some ⟨WO.heap.size, 0, none⟩) (moves [a])) ∧ Below w1.heap.size w1 wr) (fun _ k _ => P.length - (intOf k).toNat)
      case atStart => exact ⟨i + 1, j, vals, by omega, by omega, by go_num, HOI.out, Lib.hid (by rw [clRow_nil _ _ _ _ _ (Nat.le_refl _), List.append_nil]; exact HJ.out), by omega, Lib.hid (by rw [clRow_nil _ _ _ _ _ (Nat.le_refl _), List.append_nil]; exact HPI.out), HFI, HFB, hbI⟩
      case round =>
        clear HOI HPI HFI HFB hbI HJ HP HF1 hj hjl
        obtain ⟨k, j, vals, hik, hkN, rfl, hown, HJ, hj, HP2, HF2, HFB2, hbx⟩ := hrel
        have hsx := hbx.size
        have hb : Below w.heap.size w wr := Below.next hbx hb1 hs1
        by_cases hltk : k < P.length
        · obtain ⟨b, hb_⟩ := some_of_lt (L := mvT F T n P) (k := k) (by rw [hml.out]; exact hltk)
          have HMB := Lib.hid (mvT_ok HRP.out hb_)
          obtain ⟨p, hp_⟩ := some_of_lt (L := D) (k := i) (by rw [HDP.out]; exact hlt)
          obtain ⟨q, hq_⟩ := some_of_lt (L := D) (k := k) (by rw [HDP.out]; exact hltk)
          have hiD : i < D.length := by rw [HDP.out]; exact hlt
          have hkD : k < D.length := by rw [HDP.out]; exact hltk
          obtain ⟨b7, o7, h7, f0, f1, f2, f3, f4⟩ := HF2.out.mem.move hb_
          cases h7
          obtain ⟨b4, o4, rfl, h4⟩ := (hd.below hb).int hp_
          obtain ⟨b6, o6, h6, h5⟩ := (hd.below hb).int hq_
          cases h6
          obtain ⟨hp0, hp1⟩ := inR_at HDL.out.2.2 hp_
          obtain ⟨hq0, hq1⟩ := inR_at HDL.out.2.2 hq_
          obtain ⟨bB, oB, hB, e0, e1, e2, e3, e4⟩ := HFB2.out.mem.move (k := 0) (s := a) rfl
          obtain ⟨rfl, rfl⟩ : bB = WO.heap.size ∧ oB = 0 := by simp at hB; omega
          simp only [Nat.zero_mul, Nat.add_zero, Nat.zero_add] at e0 e1 e2 e3 e4
          clear hB
          have HVK := Lib.hid hb_
          have HDI := Lib.hid hp_
          have HDK := Lib.hid hq_
          have HO2 := Lib.hid hown
          clear hb_ hp_ hq_ hown hb
          have k0 : ∀ dd os, (grow (redrawn wr dd) os).cell? ⟨WO.heap.size, 0, none⟩ = some (.int .i64 a.f.x) := cell_regrown e0
          have k1 : ∀ dd os, (grow (redrawn wr dd) os).cell? ⟨WO.heap.size, 1, none⟩ = some (.int .i64 a.f.y) := cell_regrown e1
          have k2 : ∀ dd os, (grow (redrawn wr dd) os).cell? ⟨WO.heap.size, 2, none⟩ = some (.int .i64 a.t.x) := cell_regrown e2
          have k3 : ∀ dd os, (grow (redrawn wr dd) os).cell? ⟨WO.heap.size, 3, none⟩ = some (.int .i64 a.t.y) := cell_regrown e3
          have k4 : ∀ dd os, (grow (redrawn wr dd) os).cell? ⟨WO.heap.size, 4, none⟩ = some (.int .i64 a.c) := cell_regrown e4
          have j0 : ∀ dd os, (grow (redrawn wr dd) os).cell? ⟨b5, o5 + k * 5, none⟩ = some (.int .i64 b.f.x) := cell_regrown f0
          have j1 : ∀ dd os, (grow (redrawn wr dd) os).cell? ⟨b5, o5 + k * 5 + 1, none⟩ = some (.int .i64 b.f.y) := cell_regrown f1
          have j2 : ∀ dd os, (grow (redrawn wr dd) os).cell? ⟨b5, o5 + k * 5 + 2, none⟩ = some (.int .i64 b.t.x) := cell_regrown f2
          have j3 : ∀ dd os, (grow (redrawn wr dd) os).cell? ⟨b5, o5 + k * 5 + 3, none⟩ = some (.int .i64 b.t.y) := cell_regrown f3
          have j4 : ∀ dd os, (grow (redrawn wr dd) os).cell? ⟨b5, o5 + k * 5 + 4, none⟩ = some (.int .i64 b.c) := cell_regrown f4
          have l0 : ∀ dd os, (grow (redrawn wr dd) os).cell? ⟨b4, o4 + i, none⟩ = some (.int .i64 p) := cell_regrown h4
          have l1 : ∀ dd os, (grow (redrawn wr dd) os).cell? ⟨b4, o4 + k, none⟩ = some (.int .i64 q) := cell_regrown h5
          cases hB : clB a b p q L
          · skip
            have HB := Lib.hid hB
            clear hB
            have HY := Lib.hid (show clAt (mvT F T n P) D L i k = false by rw [clAt_eq HVI.out HVK.out HDI.out HDK.out, HB.out])
            have C1 := Lib.hid (show ∀ dd os, Calls Tryz.prog 70 #[.agg #[.int .i64 a.f.x, .int .i64 a.f.y, .int .i64 a.t.x, .int .i64 a.t.y, .int .i64 a.c], .agg #[.int .i64 b.f.x, .int .i64 b.f.y, .int .i64 b.t.x, .int .i64 b.t.y, .int .i64 b.c], .int .i64 p, .int .i64 q, .int .i64 L] (grow (redrawn (wr) dd) os) (fun e w'' => e = .returned (.bool true) ∧ ∃ p : Regrown, w'' = grow (redrawn (wr) p.d) p.os) from fun dd os => Calls.regrown_of ((rpFits_any a b p q L HMA.out HMB.out hp0 hp1 hq0 hq1 L0 L1 _).mono (by rintro e w' ⟨he, hb⟩; rw [HB.out] at he; exact ⟨he, hb⟩)))
            go_wp2_with fail
            refine wp_region_quiet_below (by kernel_rfl) (by kernel_rfl) ?_
            repeat (first | go_big_quiet_step (first | with_reducible exact C1.out _ _) | quiet_step (first | with_reducible exact C1.out _ _))
            refine wpQuiet_nil ?_
            intro _ hw'
            obtain ⟨⟨dq, osq⟩, hw''⟩ := hw'
            subst hw''
            have hb5 := below_regrown (wr) dq osq
            have hsz5 := hb5.size
            have HO3 := Lib.hid (own_below HO2.out hb5)
            have HP3 := Lib.hid (HP2.out.below hb5)
            have HF3 := Lib.hid (HF2.out.below hb5)
            have HFB3 := Lib.hid (HFB2.out.below hb5)
            have hb6 : Below w1.heap.size w1 (grow (redrawn wr dq) osq) := Below.next hb5 hbx hsx
            have hsz6 : w1.heap.size ≤ (grow (redrawn wr dq) osq).heap.size := hb6.size
            clear hb5 k0 k1 k2 k3 k4 j0 j1 j2 j3 j4 l0 l1 hsz5 HO2 HP2 HF2 HFB2
            generalize hW2 : grow (redrawn wr dq) osq = W2 at *
            clear hW2
            go_wp2_with fail
            go_roundw
            case rel =>
              have e3 := clRow_no HY.out
              exact ⟨k + 1, j, vals, by omega, by omega, by go_num, HO3.out, Lib.hid (by rw [e3]; exact HJ.out), by omega, Lib.hid (by rw [e3]; exact HP3.out), HF3, HFB3, hb6⟩
            case measure => simp [intOf]; omega
          · skip
            have HB := Lib.hid hB
            clear hB
            have HY := Lib.hid (show clAt (mvT F T n P) D L i k = true by rw [clAt_eq HVI.out HVK.out HDI.out HDK.out, HB.out])
            have C1 := Lib.hid (show ∀ dd os, Calls Tryz.prog 70 #[.agg #[.int .i64 a.f.x, .int .i64 a.f.y, .int .i64 a.t.x, .int .i64 a.t.y, .int .i64 a.c], .agg #[.int .i64 b.f.x, .int .i64 b.f.y, .int .i64 b.t.x, .int .i64 b.t.y, .int .i64 b.c], .int .i64 p, .int .i64 q, .int .i64 L] (grow (redrawn (wr) dd) os) (fun e w'' => e = .returned (.bool false) ∧ ∃ p : Regrown, w'' = grow (redrawn (wr) p.d) p.os) from fun dd os => Calls.regrown_of ((rpFits_any a b p q L HMA.out HMB.out hp0 hp1 hq0 hq1 L0 L1 _).mono (by rintro e w' ⟨he, hb⟩; rw [HB.out] at he; exact ⟨he, hb⟩)))
            go_wp2_with fail
            refine wp_region_quiet_below (by kernel_rfl) (by kernel_rfl) ?_
            repeat (first | go_big_quiet_step (first | with_reducible exact C1.out _ _) | quiet_step (first | with_reducible exact C1.out _ _))
            refine wpQuiet_nil ?_
            intro _ hw'
            obtain ⟨⟨dq, osq⟩, hw''⟩ := hw'
            subst hw''
            have hb5 := below_regrown (wr) dq osq
            have hsz5 := hb5.size
            have HO3 := Lib.hid (own_below HO2.out hb5)
            have HP3 := Lib.hid (HP2.out.below hb5)
            have HF3 := Lib.hid (HF2.out.below hb5)
            have HFB3 := Lib.hid (HFB2.out.below hb5)
            have hb6 : Below w1.heap.size w1 (grow (redrawn wr dq) osq) := Below.next hb5 hbx hsx
            have hsz6 : w1.heap.size ≤ (grow (redrawn wr dq) osq).heap.size := hb6.size
            clear hb5 k0 k1 k2 k3 k4 j0 j1 j2 j3 j4 l0 l1 hsz5 HO2 HP2 HF2 HFB2
            generalize hW2 : grow (redrawn wr dq) osq = W2 at *
            clear hW2
            have HO4 := Lib.hid (own_below HO3.out ((Below.refl _ _).alloc (Nat.le_refl _) (.cells #[.int .i64 (i : Int), .int .i64 (k : Int)] 3)))
            go_wp2_with (at_builtin; refine wpList_append_blk _ rfl (.tmp 45) (.tmp 49) 39 rfl w1.heap.size 32 i0 (.slice none 0 0) 1 24 Tryz.underlying39 hi hz0 hz1 hz2 rfl (by omega) _ _ _ rfl HO4.out _ _ _ (congrArg (fun g => Value.slice (some ⟨g, 0, none⟩) 1 1) (by simp)) rfl rfl (by omega) (by omega) (by first | omega | (simp; omega)) ?_; intro v' w2 hown' hb2 hfar' hblk')
            go_roundw
            case rel =>
              have e3 := clRow_yes (by omega) HY.out
              exact ⟨k + 1, j + 1, _, by omega, by omega, by go_num, hown', Lib.hid (by rw [e3, ← List.append_assoc, List.length_append, ← HJ.out]; rfl), by omega, Lib.hid (by rw [e3, ← List.append_assoc]; exact HP3.out.snoc rfl hsz6 (fun j hj => (HO3.out.lt j hj).2) hblk'), Lib.hid (hfar' _ _ (HF3.out.below ((Below.refl _ _).alloc (Nat.le_refl _) _))), Lib.hid (hfar' _ _ (HFB3.out.below ((Below.refl _ _).alloc (Nat.le_refl _) _))), (hb6.alloc hsz6 _).trans hb2⟩
            case measure => simp [intOf]; omega
        · have e3 : k = P.length := by omega
          subst e3
          go_wp2_with fail
          go_roundw
          case rel => exact ⟨i + 1, j, vals, by omega, by go_num, hown, Lib.hid (by rw [clTo]; exact HJ.out), by have := HJ.out; have h1 := clTo_len (mvT F T n P) D L hp6 (i + 1); rw [clTo] at h1; omega, Lib.hid (by rw [clTo]; exact HP2.out), HF2, hbx⟩
          case measure => simp [intOf]; omega
    · go_wp2_with fail
      go_ret
      have e3 : i = P.length := by omega
      subst e3
      exact RetPairs.mk hown HP.out HJ.out hs1 (Below.next hbx hb1 hs1)

set_option maxRecDepth 100000 in
set_option maxHeartbeats 6400000 in
theorem delayedPairs_any (A : Option Addr) (c : Nat) (F : List Sp) (B : Option Addr) (d : Nat) (T : List Sp) (n : Int) (C : Option Addr) (f : Nat) (P : List Int) (E : Option Addr) (g : Nat) (D : List Int) (L : Int) (w : World) (hf : Mem w A (spots F)) (ht : Mem w B (spots T)) (hp : Mem w C (ints P)) (lf : F.length ≤ 1048576) (lt : T.length ≤ 1048576) (lp : P.length ≤ 1048576) (hfc : F.length ≤ c) (htc : T.length ≤ d) (hpc : P.length ≤ f) (hd : Mem w E (ints D)) (ld : D.length ≤ 1048576) (hok : dlOk F T n P D = true) (L0 : 0 ≤ L) (L1 : L ≤ 80) : Calls Tryz.prog 38 #[.agg #[.slice A F.length c, .slice B T.length d, .int .i64 n, .slice C P.length f], .slice E D.length g, .int .i64 L] w (RetPairs w (clV F T n P D L)) := by
  obtain ⟨i0, hi, hz0, hz1, hz2⟩ := info_parts info_intss
  have HDL := Lib.hid (dlOk_iff.1 hok)
  have HRP := Lib.hid HDL.out.1
  have HTR := Lib.hid (rpOk_iff.1 HRP.out).1
  have HPL := Lib.hid (plOk_iff.1 (trOk_iff.1 HTR.out).2.2.2.2).2
  have hp6 : P.length ≤ 6 := by have := HPL.out; have := (rpOk_iff.1 HRP.out).2.2; omega
  have HDP : Hid (D.length = P.length) := Lib.hid (by have := HPL.out; have := HDL.out.2.1; omega)
  clear hok
  go_enter Tryz.func38, Tryz.ntmps38
  go_wp2_with fail
  refine (movesOf_any A c F B d T n C f P _ (hf.below (by (repeat (first | exact Below.refl _ _ | assumption | (refine Below.alloc ?_ (by first | omega | (simp; done) | (simp; omega)) _) | (refine Below.setCell ?_ (by first | omega | (simp; done) | (simp; omega)) _) | (refine Below.drew ?_) | (refine Below.drewN ?_ _) | (refine Below.next (by assumption) ?_ (by first | omega | (simp; done) | (simp; omega))))))) (ht.below (by (repeat (first | exact Below.refl _ _ | assumption | (refine Below.alloc ?_ (by first | omega | (simp; done) | (simp; omega)) _) | (refine Below.setCell ?_ (by first | omega | (simp; done) | (simp; omega)) _) | (refine Below.drew ?_) | (refine Below.drewN ?_ _) | (refine Below.next (by assumption) ?_ (by first | omega | (simp; done) | (simp; omega))))))) (hp.below (by (repeat (first | exact Below.refl _ _ | assumption | (refine Below.alloc ?_ (by first | omega | (simp; done) | (simp; omega)) _) | (refine Below.setCell ?_ (by first | omega | (simp; done) | (simp; omega)) _) | (refine Below.drew ?_) | (refine Below.drewN ?_ _) | (refine Below.next (by assumption) ?_ (by first | omega | (simp; done) | (simp; omega))))))) lf lt lp hfc htc hpc HTR.out).mono ?_
  rintro e w1 ⟨A3, c3, rfl, ho3, hq3⟩
  rw [mvT_len] at ho3 ⊢
  have hb1 : Below w.heap.size w w1 := by (repeat (first | exact Below.refl _ _ | assumption | (refine Below.alloc ?_ (by first | omega | (simp; done) | (simp; omega)) _) | (refine Below.setCell ?_ (by first | omega | (simp; done) | (simp; omega)) _) | (refine Below.drew ?_) | (refine Below.drewN ?_ _) | (refine Below.next (by assumption) ?_ (by first | omega | (simp; done) | (simp; omega)))))
  have hs1 := hb1.size

  have HO := Lib.hid (show (w1.alloc (.cells #[] 32)).ownsRow w1.heap.size 32 1 ((.slice (some ⟨w1.heap.size, 0, none⟩) 0 0)) 0 [] from own_empty _ _ rfl (Nat.le_refl _) rfl)
  have HF := Lib.hid (show Far (w1.alloc (.cells #[] 32)) ((.slice (some ⟨w1.heap.size, 0, none⟩) 0 0)) A3 (moves (mvT F T n P)) from Far.of_row ho3 ((Below.refl _ _).alloc (Nat.le_refl _) _) (fun j hj => by simp [Value.ownBlock] at hj; omega))
  have hbw : Below w1.heap.size w1 (w1.alloc (.cells #[] 32)) := ((Below.refl _ _).alloc (Nat.le_refl _) _)
  clear ho3 hq3
  go_wp2_with fail
  go_loopw [8, 9, 10, 16] (fun v _ _ i_ wr => ∃ (i j : Nat) (vals : List Value), i ≤ P.length ∧ i_ = .int .i64 i ∧ wr.ownsRow w1.heap.size 32 1 v j vals ∧ Hid (j = (clTo (mvT F T n P) D L P.length i).length) ∧ j ≤ 6 * i ∧ Hid (PrOk wr w1.heap.size v vals (clTo (mvT F T n P) D L P.length i)) ∧ Hid (Far wr v A3 (moves (mvT F T n P))) ∧ Below w1.heap.size w1 wr) (fun _ _ _ i _ => P.length - (intOf i).toNat)
  case atStart => exact ⟨0, 0, [], by omega, rfl, HO.out, Lib.hid rfl, by omega, Lib.hid (PrOk.nil _ _ _), HF, hbw⟩
  case round =>
    obtain ⟨i, j, vals, hki, rfl, hown, HJ, hj, HP, HF1, hbx⟩ := hrel
    clear HO HF hbw
    rename World => WO
    have hsz := hbx.size
    have hml := Lib.hid (mvT_len F T n P)
    by_cases hlt : i < P.length
    · obtain ⟨a, ha⟩ := some_of_lt (L := mvT F T n P) (k := i) (by rw [hml.out]; exact hlt)
      have HMA := Lib.hid (mvT_ok HRP.out ha)
      have HVI := Lib.hid ha
      have hjl : j ≤ 36 := by omega
      have HOI := Lib.hid hown
      have HPI := HP
      have HFI := HF1
      have HFB := Lib.hid trivial
      have hbI := hbx
      clear ha
      go_wp2_with fail
      clear hown
      go_loopw [8, 10] (fun v k_ wr => ∃ (k j : Nat) (vals : List Value), i + 1 ≤ k ∧ k ≤ P.length ∧ k_ = .int .i64 k ∧ wr.ownsRow w1.heap.size 32 1 v j vals ∧ Hid (j = (clTo (mvT F T n P) D L P.length i ++ clRow (mvT F T n P) D L i k).length) ∧ j ≤ 36 + k ∧ Hid (PrOk wr w1.heap.size v vals (clTo (mvT F T n P) D L P.length i ++ clRow (mvT F T n P) D L i k)) ∧ Hid (Far wr v A3 (moves (mvT F T n P))) ∧ Hid True ∧ Below w1.heap.size w1 wr) (fun _ k _ => P.length - (intOf k).toNat)
      case atStart => exact ⟨i + 1, j, vals, by omega, by omega, by go_num, HOI.out, Lib.hid (by rw [clRow_nil _ _ _ _ _ (Nat.le_refl _), List.append_nil]; exact HJ.out), by omega, Lib.hid (by rw [clRow_nil _ _ _ _ _ (Nat.le_refl _), List.append_nil]; exact HPI.out), HFI, HFB, hbI⟩
      case round =>
        clear HOI HPI HFI HFB hbI HJ HP HF1 hj hjl
        obtain ⟨k, j, vals, hik, hkN, rfl, hown, HJ, hj, HP2, HF2, HFB2, hbx⟩ := hrel
        have hsx := hbx.size
        have hb : Below w.heap.size w wr := Below.next hbx hb1 hs1
        by_cases hltk : k < P.length
        · obtain ⟨b, hb_⟩ := some_of_lt (L := mvT F T n P) (k := k) (by rw [hml.out]; exact hltk)
          have HMB := Lib.hid (mvT_ok HRP.out hb_)
          obtain ⟨p, hp_⟩ := some_of_lt (L := D) (k := i) (by rw [HDP.out]; exact hlt)
          obtain ⟨q, hq_⟩ := some_of_lt (L := D) (k := k) (by rw [HDP.out]; exact hltk)
          have hiD : i < D.length := by rw [HDP.out]; exact hlt
          have hkD : k < D.length := by rw [HDP.out]; exact hltk
          obtain ⟨b5, o5, rfl, f0, f1, f2, f3, f4⟩ := HF2.out.mem.move hb_
          obtain ⟨b4, o4, rfl, h4⟩ := (hd.below hb).int hp_
          obtain ⟨b6, o6, h6, h5⟩ := (hd.below hb).int hq_
          cases h6
          obtain ⟨hp0, hp1⟩ := inR_at HDL.out.2.2 hp_
          obtain ⟨hq0, hq1⟩ := inR_at HDL.out.2.2 hq_
          obtain ⟨bB, oB, hB, e0, e1, e2, e3, e4⟩ := HF2.out.mem.move HVI.out
          cases hB
          have HVK := Lib.hid hb_
          have HDI := Lib.hid hp_
          have HDK := Lib.hid hq_
          have HO2 := Lib.hid hown
          clear hb_ hp_ hq_ hown hb
          have k0 : ∀ dd os, (grow (redrawn wr dd) os).cell? ⟨b5, o5 + i * 5, none⟩ = some (.int .i64 a.f.x) := cell_regrown e0
          have k1 : ∀ dd os, (grow (redrawn wr dd) os).cell? ⟨b5, o5 + i * 5 + 1, none⟩ = some (.int .i64 a.f.y) := cell_regrown e1
          have k2 : ∀ dd os, (grow (redrawn wr dd) os).cell? ⟨b5, o5 + i * 5 + 2, none⟩ = some (.int .i64 a.t.x) := cell_regrown e2
          have k3 : ∀ dd os, (grow (redrawn wr dd) os).cell? ⟨b5, o5 + i * 5 + 3, none⟩ = some (.int .i64 a.t.y) := cell_regrown e3
          have k4 : ∀ dd os, (grow (redrawn wr dd) os).cell? ⟨b5, o5 + i * 5 + 4, none⟩ = some (.int .i64 a.c) := cell_regrown e4
          have j0 : ∀ dd os, (grow (redrawn wr dd) os).cell? ⟨b5, o5 + k * 5, none⟩ = some (.int .i64 b.f.x) := cell_regrown f0
          have j1 : ∀ dd os, (grow (redrawn wr dd) os).cell? ⟨b5, o5 + k * 5 + 1, none⟩ = some (.int .i64 b.f.y) := cell_regrown f1
          have j2 : ∀ dd os, (grow (redrawn wr dd) os).cell? ⟨b5, o5 + k * 5 + 2, none⟩ = some (.int .i64 b.t.x) := cell_regrown f2
          have j3 : ∀ dd os, (grow (redrawn wr dd) os).cell? ⟨b5, o5 + k * 5 + 3, none⟩ = some (.int .i64 b.t.y) := cell_regrown f3
          have j4 : ∀ dd os, (grow (redrawn wr dd) os).cell? ⟨b5, o5 + k * 5 + 4, none⟩ = some (.int .i64 b.c) := cell_regrown f4
          have l0 : ∀ dd os, (grow (redrawn wr dd) os).cell? ⟨b4, o4 + i, none⟩ = some (.int .i64 p) := cell_regrown h4
          have l1 : ∀ dd os, (grow (redrawn wr dd) os).cell? ⟨b4, o4 + k, none⟩ = some (.int .i64 q) := cell_regrown h5
          cases hB : clB a b p q L
          · skip
            have HB := Lib.hid hB
            clear hB
            have HY := Lib.hid (show clAt (mvT F T n P) D L i k = false by rw [clAt_eq HVI.out HVK.out HDI.out HDK.out, HB.out])
            have C1 := Lib.hid (show ∀ dd os, Calls Tryz.prog 67 #[.agg #[.int .i64 a.f.x, .int .i64 a.f.y, .int .i64 a.t.x, .int .i64 a.t.y, .int .i64 a.c], .agg #[.int .i64 b.f.x, .int .i64 b.f.y, .int .i64 b.t.x, .int .i64 b.t.y, .int .i64 b.c], .int .i64 p, .int .i64 q, .int .i64 L] (grow (redrawn (wr) dd) os) (fun e w'' => e = .returned (.bool false) ∧ ∃ p : Regrown, w'' = grow (redrawn (wr) p.d) p.os) from fun dd os => Calls.regrown_of ((closeDelayed_any a b p q L HMA.out HMB.out hp0 hp1 hq0 hq1 L0 L1 _).mono (by rintro e w' ⟨he, hb⟩; rw [HB.out] at he; exact ⟨he, hb⟩)))
            go_wp2_with fail
            refine wp_region_quiet_below (by kernel_rfl) (by kernel_rfl) ?_
            repeat (first | go_big_quiet_step (first | with_reducible exact C1.out _ _) | quiet_step (first | with_reducible exact C1.out _ _))
            refine wpQuiet_nil ?_
            intro _ hw'
            obtain ⟨⟨dq, osq⟩, hw''⟩ := hw'
            subst hw''
            have hb5 := below_regrown (wr) dq osq
            have hsz5 := hb5.size
            have HO3 := Lib.hid (own_below HO2.out hb5)
            have HP3 := Lib.hid (HP2.out.below hb5)
            have HF3 := Lib.hid (HF2.out.below hb5)
            have hb6 : Below w1.heap.size w1 (grow (redrawn wr dq) osq) := Below.next hb5 hbx hsx
            have hsz6 : w1.heap.size ≤ (grow (redrawn wr dq) osq).heap.size := hb6.size
            clear hb5 k0 k1 k2 k3 k4 j0 j1 j2 j3 j4 l0 l1 hsz5 HO2 HP2 HF2
            generalize hW2 : grow (redrawn wr dq) osq = W2 at *
            clear hW2
            go_wp2_with fail
            go_roundw
            case rel =>
              have e3 := clRow_no HY.out
              exact ⟨k + 1, j, vals, by omega, by omega, by go_num, HO3.out, Lib.hid (by rw [e3]; exact HJ.out), by omega, Lib.hid (by rw [e3]; exact HP3.out), HF3, Lib.hid trivial, hb6⟩
            case measure => simp [intOf]; omega
          · skip
            have HB := Lib.hid hB
            clear hB
            have HY := Lib.hid (show clAt (mvT F T n P) D L i k = true by rw [clAt_eq HVI.out HVK.out HDI.out HDK.out, HB.out])
            have C1 := Lib.hid (show ∀ dd os, Calls Tryz.prog 67 #[.agg #[.int .i64 a.f.x, .int .i64 a.f.y, .int .i64 a.t.x, .int .i64 a.t.y, .int .i64 a.c], .agg #[.int .i64 b.f.x, .int .i64 b.f.y, .int .i64 b.t.x, .int .i64 b.t.y, .int .i64 b.c], .int .i64 p, .int .i64 q, .int .i64 L] (grow (redrawn (wr) dd) os) (fun e w'' => e = .returned (.bool true) ∧ ∃ p : Regrown, w'' = grow (redrawn (wr) p.d) p.os) from fun dd os => Calls.regrown_of ((closeDelayed_any a b p q L HMA.out HMB.out hp0 hp1 hq0 hq1 L0 L1 _).mono (by rintro e w' ⟨he, hb⟩; rw [HB.out] at he; exact ⟨he, hb⟩)))
            go_wp2_with fail
            refine wp_region_quiet_below (by kernel_rfl) (by kernel_rfl) ?_
            repeat (first | go_big_quiet_step (first | with_reducible exact C1.out _ _) | quiet_step (first | with_reducible exact C1.out _ _))
            refine wpQuiet_nil ?_
            intro _ hw'
            obtain ⟨⟨dq, osq⟩, hw''⟩ := hw'
            subst hw''
            have hb5 := below_regrown (wr) dq osq
            have hsz5 := hb5.size
            have HO3 := Lib.hid (own_below HO2.out hb5)
            have HP3 := Lib.hid (HP2.out.below hb5)
            have HF3 := Lib.hid (HF2.out.below hb5)
            have hb6 : Below w1.heap.size w1 (grow (redrawn wr dq) osq) := Below.next hb5 hbx hsx
            have hsz6 : w1.heap.size ≤ (grow (redrawn wr dq) osq).heap.size := hb6.size
            clear hb5 k0 k1 k2 k3 k4 j0 j1 j2 j3 j4 l0 l1 hsz5 HO2 HP2 HF2
            generalize hW2 : grow (redrawn wr dq) osq = W2 at *
            clear hW2
            have HO4 := Lib.hid (own_below HO3.out ((Below.refl _ _).alloc (Nat.le_refl _) (.cells #[.int .i64 (i : Int), .int .i64 (k : Int)] 3)))
            go_wp2_with (at_builtin; refine wpList_append_blk _ rfl (.tmp 45) (.tmp 49) 39 rfl w1.heap.size 32 i0 (.slice none 0 0) 1 24 Tryz.underlying39 hi hz0 hz1 hz2 rfl (by omega) _ _ _ rfl HO4.out _ _ _ (congrArg (fun g => Value.slice (some ⟨g, 0, none⟩) 1 1) (by simp)) rfl rfl (by omega) (by omega) (by first | omega | (simp; omega)) ?_; intro v' w2 hown' hb2 hfar' hblk')
            go_roundw
            case rel =>
              have e3 := clRow_yes (by omega) HY.out
              exact ⟨k + 1, j + 1, _, by omega, by omega, by go_num, hown', Lib.hid (by rw [e3, ← List.append_assoc, List.length_append, ← HJ.out]; rfl), by omega, Lib.hid (by rw [e3, ← List.append_assoc]; exact HP3.out.snoc rfl hsz6 (fun j hj => (HO3.out.lt j hj).2) hblk'), Lib.hid (hfar' _ _ (HF3.out.below ((Below.refl _ _).alloc (Nat.le_refl _) _))), Lib.hid trivial, (hb6.alloc hsz6 _).trans hb2⟩
            case measure => simp [intOf]; omega
        · have e3 : k = P.length := by omega
          subst e3
          go_wp2_with fail
          go_roundw
          case rel => exact ⟨i + 1, j, vals, by omega, by go_num, hown, Lib.hid (by rw [clTo]; exact HJ.out), by have := HJ.out; have h1 := clTo_len (mvT F T n P) D L hp6 (i + 1); rw [clTo] at h1; omega, Lib.hid (by rw [clTo]; exact HP2.out), HF2, hbx⟩
          case measure => simp [intOf]; omega
    · go_wp2_with fail
      go_ret
      have e3 : i = P.length := by omega
      subst e3
      exact RetPairs.mk hown HP.out HJ.out hs1 (Below.next hbx hb1 hs1)

end Go.Proofs.YthehcjfljjfnmaaGreat
