/-
  Draws: a transition of few performers.
-/
import Derived.Test.YthehcjfljjfnmaaGreatDtj
import Derived.Test.YthehcjfljjfnmaaGreatRgb
namespace Go.Proofs.YthehcjfljjfnmaaGreat
open Go.RowKit

theorem own_same {w w' : World} {base : Nat} {e : TypeId} {size : Nat} {v : Value} {n : Nat} {xs : List Value} (h : w.ownsRow base e size v n xs) (hs : ∀ g, v.ownBlock = some g → w'.heap[g]? = w.heap[g]?) : w'.ownsRow base e size v n xs := by
  refine ⟨h.1, ?_⟩
  rcases h.2 with h2 | ⟨g, cap, cur, h2, h3, h4, h5⟩
  · exact .inl h2
  · exact .inr ⟨g, cap, cur, h2, h3, (hs g (by rw [h2]; rfl)).trans h4, h5⟩
theorem step_append_keepE {P : Program} (w W : World) {ops : Array Oper} {o : Oper} {a : Act} {K : Act → World → Prop} {Q : Exit → Act → World → Prop} {E : Prop} (hgd : o.guard = none) (s x : Operand) (t : TypeId)
    (ho : o.op = .call { callee := .builtin .append, args := #[s, x], argTypes := #[t, t] })
    (base : Nat) (e : TypeId) (i : TypeInfo) (z : Value) (size bytes : Nat) (ht : P.underlying t = some (.slice e)) (hi : P.info? e = some i) (hz : i.zero = some z)
    (hsize : i.size = size) (hby : i.bytes = bytes) (hzs : z.cells.size = size) (hsz : 0 < size)
    (v : Value) (n : Nat) (xs : List Value) (hs : a.eval s = v) (hown : w.ownsRow base e size v n xs)
    (news : Array Value) (te : TypeId) (c : Nat) (hx : a.eval x = .slice (some ⟨w.heap.size, 0, none⟩) 1 c) (hW : W = w.alloc (.cells news te)) (hl : news.size = size) (h1 : news.toList.all Value.oneCell' = true)
    (h63 : n ≤ 1073741824) (hbytes : bytes ≤ 65536) (hbase : base ≤ w.heap.size)
    (h : ∀ v' w', w'.ownsRow base e size v' (n + 1) (xs ++ news.toList) → Below base w w' → (∀ k, k < w.heap.size → v.ownBlock ≠ some k → w'.heap[k]? = w.heap[k]? ∧ v'.ownBlock ≠ some k) → w.heap.size < w'.heap.size → K (a.put o.dst v') w') :
    if Region.wanted o (yielded ops a.tmps) = true then Oper.wp P o a W K Q else E := by
  subst hW
  have hw : Region.wanted o (yielded ops a.tmps) = true := by simp [Region.wanted, hgd]
  rw [if_pos hw]
  have hb2 : (n + 1) * bytes ≤ 140737488355328 := Nat.le_trans (Nat.mul_le_mul (Nat.succ_le_succ h63) hbytes) (by decide)
  obtain ⟨v', w', hrun, ho', hg, _, hat⟩ := run_append_own_at (P := P) (w.alloc (.cells news te)) base t o.type e i z size bytes ht hi hz hsize hby hzs hsz v n xs (hown.alloc _) ⟨w.heap.size, 0, none⟩ 1 c news.toList (by simpa using hl)
    (by
      intro j u hu
      rw [Addr.add_lit, Nat.zero_add, cell_of_row _ w.heap.size j news te (0, 0) (heap_alloc_new w _)]
      simpa using hu)
    (fun u hu => List.all_eq_true.1 h1 u hu) (by unfold maxLen; omega) hb2 (by simp; omega)
  unfold Oper.wp execOp
  simp only [ho, resolve, invoke, builtin, Sem.run_bind, Sem.run_pure, Result.andThen_ok, List.map_toArray, List.map_cons, List.map_nil, hs, hx, hrun]
  refine h v' w' ho' (((Below.refl base w).alloc hbase _).grown hg (by simp; omega) (fun k hk => ?_)) (fun k hk hne => ⟨?_, ?_⟩) (by have := hg.size; simp at this; omega)
  · exact (hown.lt k hk).1
  · rw [hg.block k (by simp; omega) (fun e => hne e.symm)]
    exact ((Below.refl w.heap.size w).alloc (Nat.le_refl _) _).block k hk
  · rcases hat with hat | hat
    · rw [hat]; exact hne
    · rw [hat]
      intro e
      have := Option.some.inj e
      simp at this
      omega

/-- A box that holds a transition, its rows, and the result's box. -/
structure TrX (w W0 wx : World) (g K b : Nat) (vF vT : Value) (F T : List Sp) (n : Int) (vP : Value) (P : List Int) : Prop where
  bx : Blk wx b #[vF, vT, .int .i64 n, vP] 34
  z : Blk wx w.heap.size #[.slice none 0 0, .slice none 0 0, .int .i64 0, .slice none 0 0] 34
  f : wx.ownsRow W0.heap.size 24 2 vF F.length (spots F)
  t : wx.ownsRow W0.heap.size 24 2 vT T.length (spots T)
  p : wx.ownsRow W0.heap.size 3 1 vP P.length (ints P)
  nf : vF.ownBlock ≠ some b
  nt : vT.ownBlock ≠ some b
  np : vP.ownBlock ≠ some b
  l : F.length ≤ 13 ∧ T.length ≤ 13 ∧ P.length ≤ 14
  sf : ∀ s ∈ F, smSp s
  st : ∀ s ∈ T, smSp s
  cur : Cur wx g K
  oth : Oth g w wx
  o : g < w.heap.size ∧ w.heap.size < W0.heap.size ∧ W0.heap.size ≤ b
section
variable {w W0 wx w' : World} {g K K' b : Nat} {vF vT vP : Value} {F T : List Sp} {n : Int} {P : List Int}
theorem TrX.lt (h : TrX w W0 wx g K b vF vT F T n vP P) : b < wx.heap.size := h.bx.lt
theorem TrX.call (h : TrX w W0 wx g K b vF vT F T n vP P) (ho : Oth g wx w') (hc : Cur w' g K') : TrX w W0 w' g K' b vF vT F T n vP P := by
  obtain ⟨o1, o2, o3⟩ := h.o
  exact ⟨ho.blk h.bx (by omega), ho.blk h.z (by omega), ho.own h.f (by omega), ho.own h.t (by omega), ho.own h.p (by omega), h.nf, h.nt, h.np, h.l, h.sf, h.st, hc, h.oth.trans ho, h.o⟩
theorem TrX.drew (h : TrX w W0 wx g K b vF vT F T n vP P) : TrX w W0 wx.drew g K b vF vT F T n vP P := ⟨h.bx, h.z, h.f, h.t, h.p, h.nf, h.nt, h.np, h.l, h.sf, h.st, h.cur, h.oth.drew, h.o⟩
theorem TrX.alloc (h : TrX w W0 wx g K b vF vT F T n vP P) (x : Obj) : TrX w W0 (wx.alloc x) g K b vF vT F T n vP P :=
  ⟨h.bx.alloc _, h.z.alloc _, ownD h.f, ownD h.t, ownD h.p, h.nf, h.nt, h.np, h.l, h.sf, h.st, h.cur.alloc _, h.oth.alloc _, h.o⟩
theorem TrX.mono (h : TrX w W0 wx g K b vF vT F T n vP P) (hk : K ≤ K') : TrX w W0 wx g K' b vF vT F T n vP P := ⟨h.bx, h.z, h.f, h.t, h.p, h.nf, h.nt, h.np, h.l, h.sf, h.st, h.cur.mono hk, h.oth, h.o⟩
theorem TrX.setN (h : TrX w W0 wx g K b vF vT F T n vP P) (m : Int) : TrX w W0 (wx.setCell ⟨b, 2, none⟩ (.int .i64 m)) g K b vF vT F T m vP P := by
  obtain ⟨o1, o2, o3⟩ := h.o
  exact ⟨by simpa using h.bx.set 2 (.int .i64 m), h.z.other (by omega) _, own_other h.f (fun j hj e => h.nf (by rw [hj]; exact congrArg some e)), own_other h.t (fun j hj e => h.nt (by rw [hj]; exact congrArg some e)), own_other h.p (fun j hj e => h.np (by rw [hj]; exact congrArg some e)), h.nf, h.nt, h.np, h.l, h.sf, h.st, h.cur.put1 (by show g < b; omega), h.oth.set (.inr (by show w.heap.size ≤ b; omega)) _, h.o⟩
/-- All fields anew, without rows. -/
theorem TrX.reset (h : TrX w W0 wx g K b vF vT F T n vP P) (m : Int) : TrX w W0 ((((wx.setCell ⟨b, 0, none⟩ (.slice none 0 0)).setCell ⟨b, 1, none⟩ (.slice none 0 0)).setCell ⟨b, 2, none⟩ (.int .i64 m)).setCell ⟨b, 3, none⟩ (.slice none 0 0)) g K b (.slice none 0 0) (.slice none 0 0) [] [] m (.slice none 0 0) [] := by
  obtain ⟨o1, o2, o3⟩ := h.o
  have hb : b ≠ w.heap.size := by omega
  refine ⟨put4 h.bx _ _ _ _, (((h.z.other (Ne.symm hb) _).other (Ne.symm hb) _).other (Ne.symm hb) _).other (Ne.symm hb) _, World.ownsRow_nil _ _ _ _, World.ownsRow_nil _ _ _ _, World.ownsRow_nil _ _ _ _, (fun e => by cases e), (fun e => by cases e), (fun e => by cases e), ⟨by simp, by simp, by simp⟩, (fun s hs => by cases hs), (fun s hs => by cases hs), ?_, ?_, h.o⟩
  · have hg : g < b := by omega
    exact (((h.cur.put1 (p := ⟨b, 0, none⟩) hg).put1 (p := ⟨b, 1, none⟩) hg).put1 (p := ⟨b, 2, none⟩) hg).put1 (p := ⟨b, 3, none⟩) hg
  · have hw : w.heap.size ≤ b := by omega
    exact (((h.oth.set (p := ⟨b, 0, none⟩) (.inr hw) _).set (p := ⟨b, 1, none⟩) (.inr hw) _).set (p := ⟨b, 2, none⟩) (.inr hw) _).set (p := ⟨b, 3, none⟩) (.inr hw) _
theorem TrX.appF (h : TrX w W0 wx g K b vF vT F T n (.slice none 0 0) []) (hft : ∀ q, vF.ownBlock = some q → vT.ownBlock ≠ some q) {v' : Value} {s : Sp} (hown : w'.ownsRow W0.heap.size 24 2 v' (F.length + 1) (spots F ++ [.int .i64 s.x, .int .i64 s.y])) (hb : Below W0.heap.size wx w') (hk : ∀ k, k < wx.heap.size → vF.ownBlock ≠ some k → w'.heap[k]? = wx.heap[k]? ∧ v'.ownBlock ≠ some k) (hs : smSp s) (hl : F.length + 1 ≤ 13) :
    TrX w W0 (w'.setCell ⟨b, 0, none⟩ v') g K b v' vT (F ++ [s]) T n (.slice none 0 0) [] ∧ ∀ q, v'.ownBlock = some q → vT.ownBlock ≠ some q := by
  obtain ⟨o1, o2, o3⟩ := h.o
  have hlt := h.lt
  have h1 := hk b h.lt h.nf
  have hbx : Blk w' b #[vF, vT, .int .i64 n, .slice none 0 0] 34 := h1.1.trans h.bx
  have hT : ∀ q, vT.ownBlock = some q → q < wx.heap.size ∧ vF.ownBlock ≠ some q := fun q hq => ⟨(h.t.lt q hq).2, fun e => hft q e hq⟩
  refine ⟨⟨by simpa using hbx.set 0 v', (h.z.below hb (by omega)).other (by omega) _, ?_, own_other (own_same h.t (fun q hq => (hk q (hT q hq).1 (hT q hq).2).1)) (fun j hj e => h.nt (by rw [hj]; exact congrArg some e)), World.ownsRow_nil _ _ _ _, h1.2, h.nt, (fun e => by cases e), ⟨by simp; omega, h.l.2.1, by simp⟩, ?_, h.st, (h.cur.below hb (by omega)).put1 (by show g < b; omega), (Oth.of_base (hb.mono (Nat.le_of_lt o2)) (by omega) h.oth).set (.inr (by show w.heap.size ≤ b; omega)) _, h.o⟩, ?_⟩
  · have e1 : spots (F ++ [s]) = spots F ++ [.int .i64 s.x, .int .i64 s.y] := by simp [spots]
    rw [List.length_append, e1]
    exact own_other hown (fun j hj e => h1.2 (by rw [hj]; exact congrArg some e))
  · intro x hx
    rcases List.mem_append.1 hx with hx | hx
    · exact h.sf x hx
    · simp at hx; subst hx; exact hs
  · intro q e hq
    exact (hk q (hT q hq).1 (hT q hq).2).2 e
theorem TrX.appT (h : TrX w W0 wx g K b vF vT F T n (.slice none 0 0) []) (hft : ∀ q, vF.ownBlock = some q → vT.ownBlock ≠ some q) {v' : Value} {s : Sp} (hown : w'.ownsRow W0.heap.size 24 2 v' (T.length + 1) (spots T ++ [.int .i64 s.x, .int .i64 s.y])) (hb : Below W0.heap.size wx w') (hk : ∀ k, k < wx.heap.size → vT.ownBlock ≠ some k → w'.heap[k]? = wx.heap[k]? ∧ v'.ownBlock ≠ some k) (hs : smSp s) (hl : T.length + 1 ≤ 13) :
    TrX w W0 (w'.setCell ⟨b, 1, none⟩ v') g K b vF v' F (T ++ [s]) n (.slice none 0 0) [] ∧ ∀ q, vF.ownBlock = some q → v'.ownBlock ≠ some q := by
  obtain ⟨o1, o2, o3⟩ := h.o
  have hlt := h.lt
  have h1 := hk b h.lt h.nt
  have hbx : Blk w' b #[vF, vT, .int .i64 n, .slice none 0 0] 34 := h1.1.trans h.bx
  have hF : ∀ q, vF.ownBlock = some q → q < wx.heap.size ∧ vT.ownBlock ≠ some q := fun q hq => ⟨(h.f.lt q hq).2, hft q hq⟩
  refine ⟨⟨by simpa using hbx.set 1 v', (h.z.below hb (by omega)).other (by omega) _, own_other (own_same h.f (fun q hq => (hk q (hF q hq).1 (hF q hq).2).1)) (fun j hj e => h.nf (by rw [hj]; exact congrArg some e)), ?_, World.ownsRow_nil _ _ _ _, h.nf, h1.2, (fun e => by cases e), ⟨h.l.1, by simp; omega, by simp⟩, h.sf, ?_, (h.cur.below hb (by omega)).put1 (by show g < b; omega), (Oth.of_base (hb.mono (Nat.le_of_lt o2)) (by omega) h.oth).set (.inr (by show w.heap.size ≤ b; omega)) _, h.o⟩, ?_⟩
  · have e1 : spots (T ++ [s]) = spots T ++ [.int .i64 s.x, .int .i64 s.y] := by simp [spots]
    rw [List.length_append, e1]
    exact own_other hown (fun j hj e => h1.2 (by rw [hj]; exact congrArg some e))
  · intro x hx
    rcases List.mem_append.1 hx with hx | hx
    · exact h.st x hx
    · simp at hx; subst hx; exact hs
  · intro q hq e
    exact (hk q (hF q hq).1 (hF q hq).2).2 e
/-- Places are handed over. -/
theorem TrX.setP (h : TrX w W0 wx g K b vF vT F T n vP P) {v' : Value} {Q : List Int} (hown : wx.ownsRow W0.heap.size 3 1 v' Q.length (ints Q)) (hn : v'.ownBlock ≠ some b) (hl : Q.length ≤ 14) : TrX w W0 (wx.setCell ⟨b, 3, none⟩ v') g K b vF vT F T n v' Q := by
  obtain ⟨o1, o2, o3⟩ := h.o
  exact ⟨by simpa using h.bx.set 3 v', h.z.other (by omega) _, own_other h.f (fun j hj e => h.nf (by rw [hj]; exact congrArg some e)), own_other h.t (fun j hj e => h.nt (by rw [hj]; exact congrArg some e)), own_other hown (fun j hj e => hn (by rw [hj]; exact congrArg some e)), h.nf, h.nt, hn, ⟨h.l.1, h.l.2.1, hl⟩, h.sf, h.st, h.cur.put1 (by show g < b; omega), h.oth.set (.inr (by show w.heap.size ≤ b; omega)) _, h.o⟩
end

set_option maxHeartbeats 12800000 in
set_option maxRecDepth 100000 in
theorem repaired_any (g k : Nat) (w : World) (h : Cur w g k) (hk : k ≤ 200000) : Calls Tryz.prog 63 #[.pointer (some ⟨g, 0, none⟩)] w (Dtr g (k + 30000) w) := by
  have hlt0 := h.lt
  have HZ := Lib.hid (Blk.new w #[.slice none 0 0, .slice none 0 0, .int .i64 0, .slice none 0 0] 34)
  have HO := Lib.hid ((Oth.refl g w).alloc (.cells #[.slice none 0 0, .slice none 0 0, .int .i64 0, .slice none 0 0] 34))
  have HC := Lib.hid (h.alloc (.cells #[.slice none 0 0, .slice none 0 0, .int .i64 0, .slice none 0 0] 34))
  have hz0 : w.heap.size < (w.alloc (.cells #[.slice none 0 0, .slice none 0 0, .int .i64 0, .slice none 0 0] 34)).heap.size := by simp
  clear h
  go_enter Tryz.func63, Tryz.ntmps63
  go_wp2_with fail
  generalize (w.alloc (.cells #[.slice none 0 0, .slice none 0 0, .int .i64 0, .slice none 0 0] 34)) = W0 at *
  have hg0 : g < W0.heap.size := by omega
  refine (transition_any g k _ HC.out (by omega)).mono ?_
  rintro e w1 ⟨A1, c1, F0, B1, d1, T0, n0, C1, f1, P0, rfl, hf1, ht1, hp1, hn1_, hc1, ho1⟩
  have Z1 := ho1.blk HZ.out (by omega)
  have hW1 : W0.heap.size ≤ w1.heap.size := ho1.size
  have X0 := Lib.hid (show TrX w W0 (w1.alloc (.cells #[.slice A1 F0.length c1, .slice B1 T0.length d1, .int .i64 n0, .slice C1 P0.length f1] 34)) g (k + 24000) w1.heap.size (.slice A1 F0.length c1) (.slice B1 T0.length d1) F0 T0 n0 (.slice C1 P0.length f1) P0 from
    ⟨Blk.new _ _ _, Z1.alloc _, ownD hf1.2.1, ownD ht1.2.1, ownD hp1.2, (fun e => by have := (hf1.2.1.lt _ e).2; omega), (fun e => by have := (ht1.2.1.lt _ e).2; omega), (fun e => by have := (hp1.2.lt _ e).2; omega), ⟨hf1.1, ht1.1, hp1.1⟩, hf1.2.2, ht1.2.2, hc1.alloc _, (HO.out.trans ho1).alloc _, ⟨hlt0, hz0, hW1⟩⟩)
  have hfl := hf1.1
  clear hf1 ht1 hp1 hc1 ho1 HZ HO HC Z1
  obtain ⟨hn0, hn1⟩ := hn1_
  obtain ⟨b, hb⟩ : ∃ b, w1.heap.size = b := ⟨_, rfl⟩
  rw [hb] at X0
  by_cases h5 : (5 : Int) < (F0.length : Int)
  case neg =>
    have hd : decide ((5 : Int) < (F0.length : Int)) = false := decide_eq_false h5
    go_upto_region 13 with (fail)
    (try rw [hb])
    obtain ⟨vF, F, eF1, eF2⟩ : ∃ vF F, vF = Value.slice A1 F0.length c1 ∧ F = F0 := ⟨_, _, rfl, rfl⟩
    obtain ⟨vT, T, eT1, eT2⟩ : ∃ vT T, vT = Value.slice B1 T0.length d1 ∧ T = T0 := ⟨_, _, rfl, rfl⟩
    obtain ⟨vP, P, eP1, eP2⟩ : ∃ vP P, vP = Value.slice C1 P0.length f1 ∧ P = P0 := ⟨_, _, rfl, rfl⟩
    obtain ⟨n, en⟩ : ∃ n, n = n0 := ⟨_, rfl⟩
    generalize (w1.alloc (.cells #[.slice A1 F0.length c1, .slice B1 T0.length d1, .int .i64 n0, .slice C1 P0.length f1] 34)) = w7 at X0 ⊢
    have X := Lib.hid (show TrX w W0 w7 g (k + 29000) b vF vT F T n vP P by rw [eF1, eF2, eT1, eT2, eP1, eP2, en]; exact X0.out.mono (by omega))
    rw [← en] at hn0 hn1
    clear X0 hd eF1 eF2 eT1 eT2 eP1 eP2 en h5 hfl hb hW1
    by_cases h16 : (16 : Int) < n
    · have hd : decide ((16 : Int) < n) = true := decide_eq_true h16
      have dn : w7.cell? ⟨b, 2, none⟩ = some (.int .i64 n) := X.out.bx.cell 2
      go_wp2_with fail
      refine (one_any g (k + 29000) 16 _ X.out.cur (by omega) (by omega)).mono ?_
      rintro e w8 ⟨q8, rfl, hc8, ho8⟩
      have Y := Lib.hid (X.out.call ho8 hc8)
      clear ho8 hc8 dn X hd
      have hgb := Y.out.o
      have hlb := Y.out.lt
      cases q8
      · go_wp2_with fail
        refine (among_any g (k + 29002) _ 3 _ _ [4, 8, 16] 4 16 _ (Y.out.cur.alloc _) (by omega) (Blk.new _ _ _) rfl rfl (by omega) (by simp) (by simp) (by simp)).mono ?_
        rintro e w9 ⟨n9, rfl, n90, n91, hc9, ho9⟩
        have Y9 := Lib.hid ((Y.out.alloc _).call ho9 hc9)
        have dn : w9.cell? ⟨b, 2, none⟩ = some (.int .i64 n) := Y9.out.bx.cell 2
        have df := Y9.out.bx.frozen 2
        have Y10 := Lib.hid ((Y9.out.setN n9).mono (K' := k + 29900) (by omega))
        clear ho9 hc9 Y
        go_upto_region 15 with (fail)
        clear dn df Y9 hn0 hn1 h16
        generalize (w9.setCell ⟨b, 2, none⟩ (.int .i64 n9)) = w10 at Y10 ⊢
        have hn0 : 0 ≤ n9 := by omega
        have hn1 : n9 ≤ 65 := by omega
        obtain ⟨Af, cf, rfl⟩ := own_form Y10.out.f
        obtain ⟨At, ct, rfl⟩ := own_form Y10.out.t
        obtain ⟨Ap, cp, rfl⟩ := own_form Y10.out.p
        have XF := Lib.hid (show ownF W0 w10 Af cf F from ⟨Y10.out.l.1, Y10.out.f, Y10.out.sf⟩)
        have XT := Lib.hid (show ownF W0 w10 At ct T from ⟨Y10.out.l.2.1, Y10.out.t, Y10.out.st⟩)
        have XP := Lib.hid (show ownP W0 w10 Ap cp P from ⟨Y10.out.l.2.2, Y10.out.p⟩)
        have XZ := Lib.hid Y10.out.z
        have XC := Lib.hid Y10.out.cur
        have XO := Lib.hid Y10.out.oth
        have qd0 := Y10.out.bx.cell 0
        have qd1 := Y10.out.bx.cell 1
        have qd2 := Y10.out.bx.cell 2
        have qd3 := Y10.out.bx.cell 3
        simp only [List.getElem?_toArray, List.getElem?_cons_zero, List.getElem?_cons_succ] at qd0 qd1 qd2 qd3
        have qdf0 := Y10.out.bx.frozen 0
        have qdf1 := Y10.out.bx.frozen 1
        have qdf2 := Y10.out.bx.frozen 2
        have qdf3 := Y10.out.bx.frozen 3
        have qz0 := Y10.out.z.cell 0
        have qz1 := Y10.out.z.cell 1
        have qz2 := Y10.out.z.cell 2
        have qz3 := Y10.out.z.cell 3
        simp only [List.getElem?_toArray, List.getElem?_cons_zero, List.getElem?_cons_succ] at qz0 qz1 qz2 qz3
        have qzf0 := Y10.out.z.frozen 0
        have qzf1 := Y10.out.z.frozen 1
        have qzf2 := Y10.out.z.frozen 2
        have qzf3 := Y10.out.z.frozen 3
        clear Y10
        have G0 := Lib.hid (put4 XZ.out (.slice Af F.length cf) (.slice At T.length ct) (.int .i64 n9) (.slice Ap P.length cp))
        have R1 := Lib.hid (ownF.base ((((XF.out.set (p := ⟨w.heap.size, 0, none⟩) (.inl hz0) (.slice Af F.length cf)).set (p := ⟨w.heap.size, 1, none⟩) (.inl hz0) (.slice At T.length ct)).set (p := ⟨w.heap.size, 2, none⟩) (.inl hz0) (.int .i64 n9)).set (p := ⟨w.heap.size, 3, none⟩) (.inl hz0) (.slice Ap P.length cp)) (Nat.le_of_lt hz0))
        have R2 := Lib.hid (ownF.base ((((XT.out.set (p := ⟨w.heap.size, 0, none⟩) (.inl hz0) (.slice Af F.length cf)).set (p := ⟨w.heap.size, 1, none⟩) (.inl hz0) (.slice At T.length ct)).set (p := ⟨w.heap.size, 2, none⟩) (.inl hz0) (.int .i64 n9)).set (p := ⟨w.heap.size, 3, none⟩) (.inl hz0) (.slice Ap P.length cp)) (Nat.le_of_lt hz0))
        have R3 := Lib.hid (ownP.base ((((XP.out.set (p := ⟨w.heap.size, 0, none⟩) (.inl hz0) (.slice Af F.length cf)).set (p := ⟨w.heap.size, 1, none⟩) (.inl hz0) (.slice At T.length ct)).set (p := ⟨w.heap.size, 2, none⟩) (.inl hz0) (.int .i64 n9)).set (p := ⟨w.heap.size, 3, none⟩) (.inl hz0) (.slice Ap P.length cp)) (Nat.le_of_lt hz0))
        have G2 := Lib.hid ((((XC.out.put1 (p := ⟨w.heap.size, 0, none⟩) (u := .slice Af F.length cf) hlt0).put1 (p := ⟨w.heap.size, 1, none⟩) (u := .slice At T.length ct) hlt0).put1 (p := ⟨w.heap.size, 2, none⟩) (u := .int .i64 n9) hlt0).put1 (p := ⟨w.heap.size, 3, none⟩) (u := .slice Ap P.length cp) hlt0)
        have G3 := Lib.hid ((((XO.out.set (p := ⟨w.heap.size, 0, none⟩) (.inr (Nat.le_refl _)) (.slice Af F.length cf)).set (p := ⟨w.heap.size, 1, none⟩) (.inr (Nat.le_refl _)) (.slice At T.length ct)).set (p := ⟨w.heap.size, 2, none⟩) (.inr (Nat.le_refl _)) (.int .i64 n9)).set (p := ⟨w.heap.size, 3, none⟩) (.inr (Nat.le_refl _)) (.slice Ap P.length cp))
        go_wp2_with fail
        generalize ((((w10.setCell ⟨w.heap.size, 0, none⟩ (.slice Af F.length cf)).setCell ⟨w.heap.size, 1, none⟩ (.slice At T.length ct)).setCell ⟨w.heap.size, 2, none⟩ (.int .i64 n9)).setCell ⟨w.heap.size, 3, none⟩ (.slice Ap P.length cp)) = WF at G0 R1 R2 R3 G2 G3 ⊢
        have C0 : WF.cell? ⟨w.heap.size, 0, none⟩ = some (.slice Af F.length cf) := G0.out.cell 0
        have C1 : WF.cell? ⟨w.heap.size, 1, none⟩ = some (.slice At T.length ct) := G0.out.cell 1
        have C2 : WF.cell? ⟨w.heap.size, 2, none⟩ = some (.int .i64 n9) := G0.out.cell 2
        have C3 : WF.cell? ⟨w.heap.size, 3, none⟩ = some (.slice Ap P.length cp) := G0.out.cell 3
        refine bodyPost_ret (v := .agg #[.slice Af F.length cf, .slice At T.length ct, .int .i64 n9, .slice Ap P.length cp]) (by simp [results, Tryz.results63, go_sem, C0, C1, C2, C3]) rfl ?_
        exact ⟨Af, cf, F, At, ct, T, n9, Ap, cp, P, rfl, R1.out, R2.out, R3.out, ⟨hn0, hn1⟩, G2.out.mono (by omega), G3.out⟩
      · have Y8 := Lib.hid (Y.out.mono (K' := k + 29900) (by omega))
        clear Y
        obtain ⟨Af, cf, rfl⟩ := own_form Y8.out.f
        obtain ⟨At, ct, rfl⟩ := own_form Y8.out.t
        obtain ⟨Ap, cp, rfl⟩ := own_form Y8.out.p
        have XF := Lib.hid (show ownF W0 w8 Af cf F from ⟨Y8.out.l.1, Y8.out.f, Y8.out.sf⟩)
        have XT := Lib.hid (show ownF W0 w8 At ct T from ⟨Y8.out.l.2.1, Y8.out.t, Y8.out.st⟩)
        have XP := Lib.hid (show ownP W0 w8 Ap cp P from ⟨Y8.out.l.2.2, Y8.out.p⟩)
        have XZ := Lib.hid Y8.out.z
        have XC := Lib.hid Y8.out.cur
        have XO := Lib.hid Y8.out.oth
        have qd0 := Y8.out.bx.cell 0
        have qd1 := Y8.out.bx.cell 1
        have qd2 := Y8.out.bx.cell 2
        have qd3 := Y8.out.bx.cell 3
        simp only [List.getElem?_toArray, List.getElem?_cons_zero, List.getElem?_cons_succ] at qd0 qd1 qd2 qd3
        have qdf0 := Y8.out.bx.frozen 0
        have qdf1 := Y8.out.bx.frozen 1
        have qdf2 := Y8.out.bx.frozen 2
        have qdf3 := Y8.out.bx.frozen 3
        have qz0 := Y8.out.z.cell 0
        have qz1 := Y8.out.z.cell 1
        have qz2 := Y8.out.z.cell 2
        have qz3 := Y8.out.z.cell 3
        simp only [List.getElem?_toArray, List.getElem?_cons_zero, List.getElem?_cons_succ] at qz0 qz1 qz2 qz3
        have qzf0 := Y8.out.z.frozen 0
        have qzf1 := Y8.out.z.frozen 1
        have qzf2 := Y8.out.z.frozen 2
        have qzf3 := Y8.out.z.frozen 3
        clear Y8
        have G0 := Lib.hid (put4 XZ.out (.slice Af F.length cf) (.slice At T.length ct) (.int .i64 n) (.slice Ap P.length cp))
        have R1 := Lib.hid (ownF.base ((((XF.out.set (p := ⟨w.heap.size, 0, none⟩) (.inl hz0) (.slice Af F.length cf)).set (p := ⟨w.heap.size, 1, none⟩) (.inl hz0) (.slice At T.length ct)).set (p := ⟨w.heap.size, 2, none⟩) (.inl hz0) (.int .i64 n)).set (p := ⟨w.heap.size, 3, none⟩) (.inl hz0) (.slice Ap P.length cp)) (Nat.le_of_lt hz0))
        have R2 := Lib.hid (ownF.base ((((XT.out.set (p := ⟨w.heap.size, 0, none⟩) (.inl hz0) (.slice Af F.length cf)).set (p := ⟨w.heap.size, 1, none⟩) (.inl hz0) (.slice At T.length ct)).set (p := ⟨w.heap.size, 2, none⟩) (.inl hz0) (.int .i64 n)).set (p := ⟨w.heap.size, 3, none⟩) (.inl hz0) (.slice Ap P.length cp)) (Nat.le_of_lt hz0))
        have R3 := Lib.hid (ownP.base ((((XP.out.set (p := ⟨w.heap.size, 0, none⟩) (.inl hz0) (.slice Af F.length cf)).set (p := ⟨w.heap.size, 1, none⟩) (.inl hz0) (.slice At T.length ct)).set (p := ⟨w.heap.size, 2, none⟩) (.inl hz0) (.int .i64 n)).set (p := ⟨w.heap.size, 3, none⟩) (.inl hz0) (.slice Ap P.length cp)) (Nat.le_of_lt hz0))
        have G2 := Lib.hid ((((XC.out.put1 (p := ⟨w.heap.size, 0, none⟩) (u := .slice Af F.length cf) hlt0).put1 (p := ⟨w.heap.size, 1, none⟩) (u := .slice At T.length ct) hlt0).put1 (p := ⟨w.heap.size, 2, none⟩) (u := .int .i64 n) hlt0).put1 (p := ⟨w.heap.size, 3, none⟩) (u := .slice Ap P.length cp) hlt0)
        have G3 := Lib.hid ((((XO.out.set (p := ⟨w.heap.size, 0, none⟩) (.inr (Nat.le_refl _)) (.slice Af F.length cf)).set (p := ⟨w.heap.size, 1, none⟩) (.inr (Nat.le_refl _)) (.slice At T.length ct)).set (p := ⟨w.heap.size, 2, none⟩) (.inr (Nat.le_refl _)) (.int .i64 n)).set (p := ⟨w.heap.size, 3, none⟩) (.inr (Nat.le_refl _)) (.slice Ap P.length cp))
        go_wp2_with fail
        generalize ((((w8.setCell ⟨w.heap.size, 0, none⟩ (.slice Af F.length cf)).setCell ⟨w.heap.size, 1, none⟩ (.slice At T.length ct)).setCell ⟨w.heap.size, 2, none⟩ (.int .i64 n)).setCell ⟨w.heap.size, 3, none⟩ (.slice Ap P.length cp)) = WF at G0 R1 R2 R3 G2 G3 ⊢
        have C0 : WF.cell? ⟨w.heap.size, 0, none⟩ = some (.slice Af F.length cf) := G0.out.cell 0
        have C1 : WF.cell? ⟨w.heap.size, 1, none⟩ = some (.slice At T.length ct) := G0.out.cell 1
        have C2 : WF.cell? ⟨w.heap.size, 2, none⟩ = some (.int .i64 n) := G0.out.cell 2
        have C3 : WF.cell? ⟨w.heap.size, 3, none⟩ = some (.slice Ap P.length cp) := G0.out.cell 3
        refine bodyPost_ret (v := .agg #[.slice Af F.length cf, .slice At T.length ct, .int .i64 n, .slice Ap P.length cp]) (by simp [results, Tryz.results63, go_sem, C0, C1, C2, C3]) rfl ?_
        exact ⟨Af, cf, F, At, ct, T, n, Ap, cp, P, rfl, R1.out, R2.out, R3.out, ⟨hn0, hn1⟩, G2.out.mono (by omega), G3.out⟩
    · have hd : decide ((16 : Int) < n) = false := decide_eq_false h16
      have dn : w7.cell? ⟨b, 2, none⟩ = some (.int .i64 n) := X.out.bx.cell 2
      have Y8 := Lib.hid (X.out.mono (K' := k + 29900) (by omega))
      clear X
      go_upto_region 15 with (fail)
      clear dn hd
      obtain ⟨Af, cf, rfl⟩ := own_form Y8.out.f
      obtain ⟨At, ct, rfl⟩ := own_form Y8.out.t
      obtain ⟨Ap, cp, rfl⟩ := own_form Y8.out.p
      have XF := Lib.hid (show ownF W0 w7 Af cf F from ⟨Y8.out.l.1, Y8.out.f, Y8.out.sf⟩)
      have XT := Lib.hid (show ownF W0 w7 At ct T from ⟨Y8.out.l.2.1, Y8.out.t, Y8.out.st⟩)
      have XP := Lib.hid (show ownP W0 w7 Ap cp P from ⟨Y8.out.l.2.2, Y8.out.p⟩)
      have XZ := Lib.hid Y8.out.z
      have XC := Lib.hid Y8.out.cur
      have XO := Lib.hid Y8.out.oth
      have qd0 := Y8.out.bx.cell 0
      have qd1 := Y8.out.bx.cell 1
      have qd2 := Y8.out.bx.cell 2
      have qd3 := Y8.out.bx.cell 3
      simp only [List.getElem?_toArray, List.getElem?_cons_zero, List.getElem?_cons_succ] at qd0 qd1 qd2 qd3
      have qdf0 := Y8.out.bx.frozen 0
      have qdf1 := Y8.out.bx.frozen 1
      have qdf2 := Y8.out.bx.frozen 2
      have qdf3 := Y8.out.bx.frozen 3
      have qz0 := Y8.out.z.cell 0
      have qz1 := Y8.out.z.cell 1
      have qz2 := Y8.out.z.cell 2
      have qz3 := Y8.out.z.cell 3
      simp only [List.getElem?_toArray, List.getElem?_cons_zero, List.getElem?_cons_succ] at qz0 qz1 qz2 qz3
      have qzf0 := Y8.out.z.frozen 0
      have qzf1 := Y8.out.z.frozen 1
      have qzf2 := Y8.out.z.frozen 2
      have qzf3 := Y8.out.z.frozen 3
      clear Y8
      have G0 := Lib.hid (put4 XZ.out (.slice Af F.length cf) (.slice At T.length ct) (.int .i64 n) (.slice Ap P.length cp))
      have R1 := Lib.hid (ownF.base ((((XF.out.set (p := ⟨w.heap.size, 0, none⟩) (.inl hz0) (.slice Af F.length cf)).set (p := ⟨w.heap.size, 1, none⟩) (.inl hz0) (.slice At T.length ct)).set (p := ⟨w.heap.size, 2, none⟩) (.inl hz0) (.int .i64 n)).set (p := ⟨w.heap.size, 3, none⟩) (.inl hz0) (.slice Ap P.length cp)) (Nat.le_of_lt hz0))
      have R2 := Lib.hid (ownF.base ((((XT.out.set (p := ⟨w.heap.size, 0, none⟩) (.inl hz0) (.slice Af F.length cf)).set (p := ⟨w.heap.size, 1, none⟩) (.inl hz0) (.slice At T.length ct)).set (p := ⟨w.heap.size, 2, none⟩) (.inl hz0) (.int .i64 n)).set (p := ⟨w.heap.size, 3, none⟩) (.inl hz0) (.slice Ap P.length cp)) (Nat.le_of_lt hz0))
      have R3 := Lib.hid (ownP.base ((((XP.out.set (p := ⟨w.heap.size, 0, none⟩) (.inl hz0) (.slice Af F.length cf)).set (p := ⟨w.heap.size, 1, none⟩) (.inl hz0) (.slice At T.length ct)).set (p := ⟨w.heap.size, 2, none⟩) (.inl hz0) (.int .i64 n)).set (p := ⟨w.heap.size, 3, none⟩) (.inl hz0) (.slice Ap P.length cp)) (Nat.le_of_lt hz0))
      have G2 := Lib.hid ((((XC.out.put1 (p := ⟨w.heap.size, 0, none⟩) (u := .slice Af F.length cf) hlt0).put1 (p := ⟨w.heap.size, 1, none⟩) (u := .slice At T.length ct) hlt0).put1 (p := ⟨w.heap.size, 2, none⟩) (u := .int .i64 n) hlt0).put1 (p := ⟨w.heap.size, 3, none⟩) (u := .slice Ap P.length cp) hlt0)
      have G3 := Lib.hid ((((XO.out.set (p := ⟨w.heap.size, 0, none⟩) (.inr (Nat.le_refl _)) (.slice Af F.length cf)).set (p := ⟨w.heap.size, 1, none⟩) (.inr (Nat.le_refl _)) (.slice At T.length ct)).set (p := ⟨w.heap.size, 2, none⟩) (.inr (Nat.le_refl _)) (.int .i64 n)).set (p := ⟨w.heap.size, 3, none⟩) (.inr (Nat.le_refl _)) (.slice Ap P.length cp))
      go_wp2_with fail
      generalize ((((w7.setCell ⟨w.heap.size, 0, none⟩ (.slice Af F.length cf)).setCell ⟨w.heap.size, 1, none⟩ (.slice At T.length ct)).setCell ⟨w.heap.size, 2, none⟩ (.int .i64 n)).setCell ⟨w.heap.size, 3, none⟩ (.slice Ap P.length cp)) = WF at G0 R1 R2 R3 G2 G3 ⊢
      have C0 : WF.cell? ⟨w.heap.size, 0, none⟩ = some (.slice Af F.length cf) := G0.out.cell 0
      have C1 : WF.cell? ⟨w.heap.size, 1, none⟩ = some (.slice At T.length ct) := G0.out.cell 1
      have C2 : WF.cell? ⟨w.heap.size, 2, none⟩ = some (.int .i64 n) := G0.out.cell 2
      have C3 : WF.cell? ⟨w.heap.size, 3, none⟩ = some (.slice Ap P.length cp) := G0.out.cell 3
      refine bodyPost_ret (v := .agg #[.slice Af F.length cf, .slice At T.length ct, .int .i64 n, .slice Ap P.length cp]) (by simp [results, Tryz.results63, go_sem, C0, C1, C2, C3]) rfl ?_
      exact ⟨Af, cf, F, At, ct, T, n, Ap, cp, P, rfl, R1.out, R2.out, R3.out, ⟨hn0, hn1⟩, G2.out.mono (by omega), G3.out⟩
  have hd : decide ((5 : Int) < (F0.length : Int)) = true := decide_eq_true h5
  go_wp2_with fail
  (try rw [hb])
  generalize (w1.alloc (.cells #[.slice A1 F0.length c1, .slice B1 T0.length d1, .int .i64 n0, .slice C1 P0.length f1] 34)) = w2 at X0 ⊢
  clear hb hW1
  refine (one_any g (k + 24000) 12 _ X0.out.cur (by omega) (by omega)).mono ?_
  rintro e w3 ⟨q3, rfl, hc3, ho3⟩
  have X3 := Lib.hid (X0.out.call ho3 hc3)
  clear ho3 hc3 X0 hd
  have hgb := X3.out.o
  go_upto_if 18 with (fail)
  go_cut [] from 4 to 68 (fun wx => ∃ vF F vT T n vP P, (0 ≤ n ∧ n ≤ 65) ∧ Hid (TrX w W0 wx g (k + 29000) b vF vT F T n vP P))
  case first => as_aux_lemma =>
    cases q3
    case true =>
      go_wp2_with fail
      go_meet
      exact ⟨_, _, _, _, _, _, _, ⟨hn0, hn1⟩, Lib.hid (X3.out.mono (by omega))⟩
    have d0 : w3.cell? ⟨b, 0, none⟩ = some (.slice A1 F0.length c1) := X3.out.bx.cell 0
    have d1_ : w3.cell? ⟨b, 1, none⟩ = some (.slice B1 T0.length d1) := X3.out.bx.cell 1
    have d2 : w3.cell? ⟨b, 2, none⟩ = some (.int .i64 n0) := X3.out.bx.cell 2
    have d3 : w3.cell? ⟨b, 3, none⟩ = some (.slice C1 P0.length f1) := X3.out.bx.cell 3
    have e0 := X3.out.bx.frozen 0
    have e1 := X3.out.bx.frozen 1
    have e2 := X3.out.bx.frozen 2
    have e3 := X3.out.bx.frozen 3
    have X4 := Lib.hid (X3.out.reset n0)
    go_upto_region 5 with (fail)
    clear d0 d1_ d2 d3 e0 e1 e2 e3 X3
    generalize ((((w3.setCell ⟨b, 0, none⟩ (.slice none 0 0)).setCell ⟨b, 1, none⟩ (.slice none 0 0)).setCell ⟨b, 2, none⟩ (.int .i64 n0)).setCell ⟨b, 3, none⟩ (.slice none 0 0)) = w4 at X4 ⊢
    go_wp2_with fail
    refine (pick_any g (k + 24002) 4 _ 3 X4.out.cur (by omega) (by omega) (by omega) (by omega)).mono ?_
    rintro e w5 ⟨q5, rfl, q50, q51, hc5, ho5⟩
    have X5 := Lib.hid (X4.out.call ho5 hc5)
    clear ho5 hc5 X4
    obtain ⟨m, hm⟩ : ∃ m : Nat, 2 + q5 = (m : Int) := ⟨(2 + q5).toNat, by omega⟩
    have HM := Lib.hid hm
    have hm5 : m ≤ 5 := by omega
    go_wp2_with fail
    (try rw [HM.out])
    clear hm
    refine (inner_any g (k + 24004) _ X5.out.cur (by omega)).mono ?_
    rintro e w6 ⟨x, y, rfl, x0, x1, y0, y1, hc6, ho6⟩
    have X6 := Lib.hid ((X5.out.call ho6 hc6).alloc (.cells #[.int .i64 x, .int .i64 y] 24))
    have hl6 := (X5.out.call ho6 hc6).lt
    have S6 := Lib.hid (Blk.new w6 #[.int .i64 x, .int .i64 y] 24)
    clear ho6 hc6 X5
    go_upto_region 7 with (fail)
    obtain ⟨q, hq⟩ : ∃ q, w6.heap.size = q := ⟨_, rfl⟩
    have hqb : b < q := by omega
    rw [hq] at S6 ⊢
    clear hl6
    generalize (w6.alloc (.cells #[.int .i64 x, .int .i64 y] 24)) = w7 at X6 S6 ⊢
    clear hq
    obtain ⟨i0, hi, hz0_, hz1, hz2⟩ := info_parts info_spot
    go_wp2_with fail
    go_loopw [6] (fun iv wr => ∃ (j : Nat) (vF : Value) (F : List Sp) (vT : Value) (T : List Sp), j ≤ m ∧ iv = .int .i64 (j : Int) ∧ F.length = j ∧ T.length = j ∧ Hid (TrX w W0 wr g (k + 25000 + j * 4) b vF vT F T n0 (.slice none 0 0) []) ∧ Hid (∀ z, vF.ownBlock = some z → vT.ownBlock ≠ some z) ∧ Hid (Blk wr q #[.int .i64 x, .int .i64 y] 24) ∧ Hid (vF.ownBlock ≠ some q ∧ vT.ownBlock ≠ some q)) (fun iv _ => m - (intOf iv).toNat)
    case atStart => exact ⟨0, .slice none 0 0, [], .slice none 0 0, [], by omega, rfl, rfl, rfl, Lib.hid (X6.out.mono (by omega)), Lib.hid (fun z e => by cases e), S6, Lib.hid ⟨fun e => (by cases e), fun e => (by cases e)⟩⟩
    case round =>
      obtain ⟨j, vF, F, vT, T, hj, rfl, hF, hT, X, HFT, S, NQ⟩ := hrel
      clear X6 S6
      by_cases hlt : j < m
      · have hlt' : (j : Int) < (m : Int) := by omega
        have HFl := Lib.hid hF
        have HTl := Lib.hid hT
        have hfn : F.length ≤ 5 := by omega
        have htn : T.length ≤ 5 := by omega
        clear hF hT
        have d0 : wr.cell? ⟨b, 0, none⟩ = some vF := X.out.bx.cell 0
        have s0 : wr.cell? ⟨q, 0, none⟩ = some (.int .i64 x) := S.out.cell 0
        have s1 : wr.cell? ⟨q, 1, none⟩ = some (.int .i64 y) := S.out.cell 1
        have hlb := X.out.lt
        have hWb := X.out.o.2.2
        have hj5 : (j : Int) ≤ 4 := by omega
        go_wp2_with (at_builtin; refine wpList_append_keep _ rfl (.tmp 33) (.tmp 42) 31 rfl W0.heap.size 24 i0 (.agg #[.int .i64 0, .int .i64 0]) 2 16 Tryz.underlying31 hi hz0_ hz1 hz2 rfl (by omega) _ _ _ rfl X.out.f _ _ _ rfl rfl rfl (by omega) (by omega) (by omega) ?_; intro v' w8 hown8 hb8 hk8 hsz8; obtain ⟨A8, c8, rfl⟩ := own_form hown8; have hB8 : Blk w8 b #[vF, vT, .int .i64 n0, .slice none 0 0] 34 := (hk8 b X.out.lt X.out.nf).1.trans X.out.bx; have d0' : w8.cell? ⟨b, 0, none⟩ = some vF := hB8.cell 0; have f0' := hB8.frozen 0; have hl8 := hB8.lt)
        have hap := TrX.appF X.out HFT.out (v' := .slice A8 (F.length + 1) c8) (s := ⟨x + 16 * (j : Int), y⟩) hown8 hb8 hk8 (by unfold smSp; dsimp only; omega) (by omega)
        have hqs := hk8 q (S.out.lt) NQ.out.1
        have X9 := Lib.hid hap.1
        have HFT9 := Lib.hid hap.2
        have S9 := Lib.hid (show Blk (w8.setCell ⟨b, 0, none⟩ (.slice A8 (F.length + 1) c8)) q #[.int .i64 x, .int .i64 y] 24 from (show Blk w8 q _ _ from hqs.1.trans S.out).other (by omega) _)
        have NQ9 := Lib.hid (show (Value.slice A8 (F.length + 1) c8).ownBlock ≠ some q ∧ vT.ownBlock ≠ some q from ⟨hqs.2, NQ.out.2⟩)
        clear hap hqs hown8 hb8 hk8 hsz8 hB8 d0' f0' hl8 X HFT S NQ d0 s0 s1 hlb
        obtain ⟨vF9, hv9⟩ : ∃ v, Value.slice A8 (F.length + 1) c8 = v := ⟨_, rfl⟩
        rw [hv9] at X9 HFT9 S9 NQ9 ⊢
        obtain ⟨F9, hF9⟩ : ∃ L, F ++ [⟨x + 16 * (j : Int), y⟩] = L := ⟨_, rfl⟩
        have HF9 := Lib.hid (show F9.length = j + 1 by rw [← hF9, List.length_append, HFl.out]; rfl)
        rw [hF9] at X9
        clear hF9
        have hmulw : IntKind.i64.wrap (16 * (j : Int)) = 16 * (j : Int) := IntWalk.i64_in _ (by omega)
        have haddw : IntKind.i64.wrap (x + 16 * (j : Int)) = x + 16 * (j : Int) := IntWalk.i64_in _ (by omega)
        generalize (w8.setCell ⟨b, 0, none⟩ vF9) = w9 at X9 S9 ⊢
        clear hv9
        have hS0 : w9.drew.cell? ⟨b, 1, none⟩ = some vT ∧ w9.drew.cell? ⟨q, 0, none⟩ = some (.int .i64 x) ∧ w9.drew.cell? ⟨q, 1, none⟩ = some (.int .i64 y) := ⟨X9.out.bx.cell 1, S9.out.cell 0, S9.out.cell 1⟩
        refine wp_region_noPanic ?_
        refine wp_region_L 20 (fun wx => wx.cell? ⟨b, 1, none⟩ = some vT ∧ wx.cell? ⟨q, 0, none⟩ = some (.int .i64 x) ∧ wx.cell? ⟨q, 1, none⟩ = some (.int .i64 y)) (by kernel_rfl) hS0 (fun _ => ?_)
        refine wpAnyL_takeD (i := 0) (v := .pointer (some ⟨b, 1, none⟩)) 45 rfl rfl (by kernel_rfl) (by kernel_rfl) (by kernel_rfl) (by kernel_rfl) (fun _ _ _ h => h) (Or.inl ⟨by rfl, fun _ _ => rfl⟩) hS0 ?_
        simp only [Act.put, List.setIfInBounds_toArray, List.set_cons_zero, List.set_cons_succ]
        refine wpAnyL_takeD (i := 1) (v := vT) 46 rfl rfl (by kernel_rfl) (by kernel_rfl) (by kernel_rfl) (by kernel_rfl) (fun _ _ _ h => h) (Or.inl ⟨by rfl, ?_⟩) hS0 ?_
        (focus (intro w hSw; obtain ⟨hs1, hs2, hs3⟩ := hSw; go_simp))
        simp only [Act.put, List.setIfInBounds_toArray, List.set_cons_zero, List.set_cons_succ]
        refine wpAnyL_takeD (i := 2) (v := .pointer (some ⟨q, 0, none⟩)) 47 rfl rfl (by kernel_rfl) (by kernel_rfl) (by kernel_rfl) (by kernel_rfl) (fun _ _ _ h => h) (Or.inl ⟨by rfl, fun _ _ => rfl⟩) hS0 ?_
        simp only [Act.put, List.setIfInBounds_toArray, List.set_cons_zero, List.set_cons_succ]
        refine wpAnyL_takeD (i := 3) (v := .int .i64 x) 48 rfl rfl (by kernel_rfl) (by kernel_rfl) (by kernel_rfl) (by kernel_rfl) (fun _ _ _ h => h) (Or.inl ⟨by rfl, ?_⟩) hS0 ?_
        (focus (intro w hSw; obtain ⟨hs1, hs2, hs3⟩ := hSw; go_simp))
        simp only [Act.put, List.setIfInBounds_toArray, List.set_cons_zero, List.set_cons_succ]
        refine wpAnyL_takeD (i := 4) (v := .int .i64 (j : Int)) 49 rfl rfl (by kernel_rfl) (by kernel_rfl) (by kernel_rfl) (by kernel_rfl) (fun _ _ _ h => h) (Or.inl ⟨by rfl, fun _ _ => rfl⟩) hS0 ?_
        simp only [Act.put, List.setIfInBounds_toArray, List.set_cons_zero, List.set_cons_succ]
        refine wpAnyL_takeD (i := 5) (v := .int .i64 (IntKind.i64.wrap (16 * (j : Int)))) 50 rfl rfl (by kernel_rfl) (by kernel_rfl) (by kernel_rfl) (by kernel_rfl) (fun _ _ _ h => h) (Or.inl ⟨by rfl, ?_⟩) hS0 ?_
        (focus (intro w hSw; refine run_mul 3 3 _ _ rfl ?_ ?_ <;> rfl))
        simp only [Act.put, List.setIfInBounds_toArray, List.set_cons_zero, List.set_cons_succ]
        refine wpAnyL_takeD (i := 6) (v := .int .i64 (IntKind.i64.wrap (x + IntKind.i64.wrap (16 * (j : Int))))) 51 rfl rfl (by kernel_rfl) (by kernel_rfl) (by kernel_rfl) (by kernel_rfl) (fun _ _ _ h => h) (Or.inl ⟨by rfl, ?_⟩) hS0 ?_
        (focus (intro w hSw; refine run_add 3 3 _ _ rfl ?_ ?_ <;> rfl))
        simp only [Act.put, List.setIfInBounds_toArray, List.set_cons_zero, List.set_cons_succ]
        refine wpAnyL_takeD (i := 7) (v := .pointer (some ⟨g, 0, none⟩)) 52 rfl rfl (by kernel_rfl) (by kernel_rfl) (by kernel_rfl) (by kernel_rfl) (fun _ _ _ h => h) (Or.inl ⟨by rfl, fun _ _ => rfl⟩) hS0 ?_
        simp only [Act.put, List.setIfInBounds_toArray, List.set_cons_zero, List.set_cons_succ]
        refine wpAnyL_takeD (i := 10) (v := .pointer (some ⟨q, 1, none⟩)) 55 rfl rfl (by kernel_rfl) (by kernel_rfl) (by kernel_rfl) (by kernel_rfl) (fun _ _ _ h => h) (Or.inl ⟨by rfl, fun _ _ => rfl⟩) hS0 ?_
        simp only [Act.put, List.setIfInBounds_toArray, List.set_cons_zero, List.set_cons_succ]
        refine wpAnyL_takeD (i := 11) (v := .int .i64 y) 56 rfl rfl (by kernel_rfl) (by kernel_rfl) (by kernel_rfl) (by kernel_rfl) (fun _ _ _ h => h) (Or.inl ⟨by rfl, ?_⟩) hS0 ?_
        (focus (intro w hSw; obtain ⟨hs1, hs2, hs3⟩ := hSw; go_simp))
        simp only [Act.put, List.setIfInBounds_toArray, List.set_cons_zero, List.set_cons_succ]
        refine wpAnyL_takeD (i := 12) (v := .pointer (some ⟨g, 0, none⟩)) 57 rfl rfl (by kernel_rfl) (by kernel_rfl) (by kernel_rfl) (by kernel_rfl) (fun _ _ _ h => h) (Or.inl ⟨by rfl, fun _ _ => rfl⟩) hS0 ?_
        simp only [Act.put, List.setIfInBounds_toArray, List.set_cons_zero, List.set_cons_succ]
        refine wpAnyL_only (i := 8) rfl (by kernel_rfl) (fun K hK => ?_)
        go_simp
        refine (pick_any g (k + 25000 + j * 4) 9 _ 8 X9.out.drew.cur (by omega) (by omega) (by omega) (by omega)).mono ?_
        rintro e wa ⟨r1, rfl, r10, r11, hca, hoa⟩
        have hw54 : IntKind.i64.wrap (x + 16 * (j : Int) + r1) = x + 16 * (j : Int) + r1 := IntWalk.i64_in _ (by omega)
        have Xa := Lib.hid (X9.out.drew.call hoa hca)
        have Sa := Lib.hid (hoa.blk (show Blk w9.drew q _ _ from S9.out) (by omega))
        have hSa : wa.cell? ⟨b, 1, none⟩ = some vT ∧ wa.cell? ⟨q, 0, none⟩ = some (.int .i64 x) ∧ wa.cell? ⟨q, 1, none⟩ = some (.int .i64 y) := ⟨Xa.out.bx.cell 1, Sa.out.cell 0, Sa.out.cell 1⟩
        refine hK.out _ _ (fun _ => hSa) ?_
        clear hK K hca hoa X9 S9 hS0
        (try simp only [Act.put, List.setIfInBounds_toArray, List.set_cons_zero, List.set_cons_succ])
        refine wpAnyL_takeD (i := 9) (v := .int .i64 (IntKind.i64.wrap (x + 16 * (j : Int) + r1))) 54 rfl rfl (by kernel_rfl) (by kernel_rfl) (by kernel_rfl) (by kernel_rfl) (fun _ _ _ h => h) (Or.inl ⟨by rfl, ?_⟩) hSa ?_
        (focus (intro w hSw; refine run_add 3 3 _ _ rfl ?_ ?_ <;> rfl))
        simp only [Act.put, List.setIfInBounds_toArray, List.set_cons_zero, List.set_cons_succ]
        refine wpAnyL_only (i := 13) rfl (by kernel_rfl) (fun K hK => ?_)
        go_simp
        refine (pick_any g (k + 25000 + j * 4 + 2) 2 _ 1 Xa.out.cur (by omega) (by omega) (by omega) (by omega)).mono ?_
        rintro e wb ⟨r2, rfl, r20, r21, hcb, hob⟩
        have hw59 : IntKind.i64.wrap (32 * r2) = 32 * r2 := IntWalk.i64_in _ (by omega)
        have hw60 : IntKind.i64.wrap (y + 32 * r2) = y + 32 * r2 := IntWalk.i64_in _ (by omega)
        have Xb := Lib.hid (Xa.out.call hob hcb)
        have Sb := Lib.hid (hob.blk Sa.out (by omega))
        have hSb : wb.cell? ⟨b, 1, none⟩ = some vT ∧ wb.cell? ⟨q, 0, none⟩ = some (.int .i64 x) ∧ wb.cell? ⟨q, 1, none⟩ = some (.int .i64 y) := ⟨Xb.out.bx.cell 1, Sb.out.cell 0, Sb.out.cell 1⟩
        refine hK.out _ _ (fun _ => hSb) ?_
        clear hK K hcb hob Xa Sa hSa
        (try simp only [Act.put, List.setIfInBounds_toArray, List.set_cons_zero, List.set_cons_succ])
        refine wpAnyL_takeD (i := 14) (v := .int .i64 (IntKind.i64.wrap (32 * r2))) 59 rfl rfl (by kernel_rfl) (by kernel_rfl) (by kernel_rfl) (by kernel_rfl) (fun _ _ _ h => h) (Or.inl ⟨by rfl, ?_⟩) hSb ?_
        (focus (intro w hSw; refine run_mul 3 3 _ _ rfl ?_ ?_ <;> rfl))
        simp only [Act.put, List.setIfInBounds_toArray, List.set_cons_zero, List.set_cons_succ]
        refine wpAnyL_takeD (i := 15) (v := .int .i64 (IntKind.i64.wrap (y + IntKind.i64.wrap (32 * r2)))) 60 rfl rfl (by kernel_rfl) (by kernel_rfl) (by kernel_rfl) (by kernel_rfl) (fun _ _ _ h => h) (Or.inl ⟨by rfl, ?_⟩) hSb ?_
        (focus (intro w hSw; refine run_add 3 3 _ _ rfl ?_ ?_ <;> rfl))
        simp only [Act.put, List.setIfInBounds_toArray, List.set_cons_zero, List.set_cons_succ]
        refine wpAnyL_only (i := 16) rfl (by kernel_rfl) (fun K hK => ?_)
        go_simp
        refine hK.out _ _ (fun _ => hSb) ?_
        clear hK K
        (try simp only [Act.put, List.setIfInBounds_toArray, List.set_cons_zero, List.set_cons_succ])
        refine wpAnyL_only (i := 17) rfl (by kernel_rfl) (fun K hK => ?_)
        go_simp
        refine hK.out _ _ (fun _ => ⟨(Xb.out.alloc _).bx.cell 1, (Sb.out.alloc _).cell 0, (Sb.out.alloc _).cell 1⟩) ?_
        clear hK K hSb
        (try simp only [Act.put, List.setIfInBounds_toArray, List.set_cons_zero, List.set_cons_succ])
        have hbl := Xb.out.lt
        refine wpAnyL_only (i := 18) rfl (by kernel_rfl) (fun K hK => ?_)
        refine step_append_keepE wb _ rfl (.tmp 46) (.tmp 62) 31 rfl W0.heap.size 24 i0 (.agg #[.int .i64 0, .int .i64 0]) 2 16 Tryz.underlying31 hi hz0_ hz1 hz2 rfl (by omega) vT T.length (spots T) rfl Xb.out.t #[.int .i64 (x + 16 * (j : Int) + r1), .int .i64 (y + 32 * r2)] 24 1 rfl rfl rfl rfl (by omega) (by omega) (by omega) ?_
        intro v' wd hownd hbd hkd hszd
        obtain ⟨Ad, cd, rfl⟩ := own_form hownd
        have hBd : Blk wd b #[vF9, vT, .int .i64 n0, .slice none 0 0] 34 := (hkd b Xb.out.lt Xb.out.nt).1.trans Xb.out.bx
        have hSd : Blk wd q #[.int .i64 x, .int .i64 y] 24 := (hkd q Sb.out.lt NQ9.out.2).1.trans Sb.out
        have hld := hBd.lt
        have apd := TrX.appT Xb.out HFT9.out (v' := .slice Ad (T.length + 1) cd) (s := ⟨x + 16 * (j : Int) + r1, y + 32 * r2⟩) hownd hbd hkd (by unfold smSp; dsimp only; omega) (by omega)
        have Xd := Lib.hid apd.1
        have HFTd := Lib.hid apd.2
        have NQd := Lib.hid (show vF9.ownBlock ≠ some q ∧ (Value.slice Ad (T.length + 1) cd).ownBlock ≠ some q from ⟨NQ9.out.1, (hkd q Sb.out.lt NQ9.out.2).2⟩)
        have Sd := Lib.hid (show Blk (wd.setCell ⟨b, 1, none⟩ (.slice Ad (T.length + 1) cd)) q #[.int .i64 x, .int .i64 y] 24 from hSd.other (by omega) _)
        go_simp
        refine hK.out _ _ (fun _ => ⟨hBd.cell 1, hSd.cell 0, hSd.cell 1⟩) ?_
        clear hK K hownd hbd hkd hszd apd NQ9 HFT9 Xb Sb
        (try simp only [Act.put, List.setIfInBounds_toArray, List.set_cons_zero, List.set_cons_succ])
        refine wpAnyL_only (i := 19) rfl (by kernel_rfl) (fun K hK => ?_)
        go_simp
        refine hK.out _ _ (fun _ => ⟨hBd.cell 1, hSd.cell 0, hSd.cell 1⟩) ?_
        clear hK K
        (try simp only [Act.put, List.setIfInBounds_toArray, List.set_cons_zero, List.set_cons_succ])
        refine wpAnyL_only (i := 20) rfl (by kernel_rfl) (fun K hK => ?_)
        have c1_ : wd.cell? ⟨b, 1, none⟩ = some vT := hBd.cell 1
        have f1_ := hBd.frozen 1
        go_simp
        refine hK.out _ _ (fun h => absurd rfl h) ?_
        clear hK K c1_ f1_ hBd hSd
        refine wpAnyL_done (by kernel_rfl) (NoPanic.normal ?_)
        obtain ⟨vT9, hvT⟩ : ∃ v, Value.slice Ad (T.length + 1) cd = v := ⟨_, rfl⟩
        rw [hvT] at Xd HFTd NQd Sd ⊢
        obtain ⟨T9, hT9⟩ : ∃ L, T ++ [⟨x + 16 * (j : Int) + r1, y + 32 * r2⟩] = L := ⟨_, rfl⟩
        have HT9 := Lib.hid (show T9.length = j + 1 by rw [← hT9, List.length_append, HTl.out]; rfl)
        rw [hT9] at Xd
        clear hT9
        generalize (wd.setCell ⟨b, 1, none⟩ vT9) = we at Xd Sd ⊢
        clear hvT hld hbl hw54 hw59 hw60 hmulw haddw
        go_wp2_with fail
        go_roundw
        case rel => exact ⟨j + 1, vF9, F9, vT9, T9, by omega, by go_num, HF9.out, HT9.out, Lib.hid (Xd.out.mono (by omega)), HFTd, Sd, NQd⟩
        case measure => simp [intOf]; omega
      · have hjm : ¬ ((j : Int) < (m : Int)) := by omega
        have hlb := X.out.lt
        have hWb := X.out.o.2.2
        go_wp2_with fail
        refine (matching_any g (k + 25000 + j * 4) m _ X.out.cur (by omega) (by omega)).mono ?_
        rintro e w8 ⟨C5, f5, P, rfl, hpl, hp4, hc4, ho4⟩
        have X8 := Lib.hid (X.out.call ho4 hc4)
        have d3 : w8.cell? ⟨b, 3, none⟩ = some (.slice none 0 0) := X8.out.bx.cell 3
        have f3 := X8.out.bx.frozen 3
        have hl8 := X8.out.lt
        have X9 := Lib.hid (TrX.setP X8.out (own_base hp4 (by omega)) (fun e => by have := (hp4.lt _ e).1; omega) (by omega))
        clear X X8 hp4 ho4 hc4
        go_wp2_with fail
        go_meet
        exact ⟨vF, F, vT, T, n0, .slice C5 m f5, P, ⟨hn0, hn1⟩, Lib.hid (by have hx := X9.out.mono (K' := k + 29000) (by omega); rw [hpl] at hx; exact hx)⟩
  case rest =>
    obtain ⟨vF, F, vT, T, n, vP, P, hnn, X⟩ := hcut
    clear X3 hn0 hn1 hfl h5
    obtain ⟨hn0, hn1⟩ := hnn
    generalize wc = w7 at X ⊢
    by_cases h16 : (16 : Int) < n
    · have hd : decide ((16 : Int) < n) = true := decide_eq_true h16
      have dn : w7.cell? ⟨b, 2, none⟩ = some (.int .i64 n) := X.out.bx.cell 2
      go_wp2_with fail
      refine (one_any g (k + 29000) 16 _ X.out.cur (by omega) (by omega)).mono ?_
      rintro e w8 ⟨q8, rfl, hc8, ho8⟩
      have Y := Lib.hid (X.out.call ho8 hc8)
      clear ho8 hc8 dn X hd
      have hgb := Y.out.o
      have hlb := Y.out.lt
      cases q8
      · go_wp2_with fail
        refine (among_any g (k + 29002) _ 3 _ _ [4, 8, 16] 4 16 _ (Y.out.cur.alloc _) (by omega) (Blk.new _ _ _) rfl rfl (by omega) (by simp) (by simp) (by simp)).mono ?_
        rintro e w9 ⟨n9, rfl, n90, n91, hc9, ho9⟩
        have Y9 := Lib.hid ((Y.out.alloc _).call ho9 hc9)
        have dn : w9.cell? ⟨b, 2, none⟩ = some (.int .i64 n) := Y9.out.bx.cell 2
        have df := Y9.out.bx.frozen 2
        have Y10 := Lib.hid ((Y9.out.setN n9).mono (K' := k + 29900) (by omega))
        clear ho9 hc9 Y
        go_upto_region 15 with (fail)
        clear dn df Y9 hn0 hn1 h16
        generalize (w9.setCell ⟨b, 2, none⟩ (.int .i64 n9)) = w10 at Y10 ⊢
        have hn0 : 0 ≤ n9 := by omega
        have hn1 : n9 ≤ 65 := by omega
        obtain ⟨Af, cf, rfl⟩ := own_form Y10.out.f
        obtain ⟨At, ct, rfl⟩ := own_form Y10.out.t
        obtain ⟨Ap, cp, rfl⟩ := own_form Y10.out.p
        have XF := Lib.hid (show ownF W0 w10 Af cf F from ⟨Y10.out.l.1, Y10.out.f, Y10.out.sf⟩)
        have XT := Lib.hid (show ownF W0 w10 At ct T from ⟨Y10.out.l.2.1, Y10.out.t, Y10.out.st⟩)
        have XP := Lib.hid (show ownP W0 w10 Ap cp P from ⟨Y10.out.l.2.2, Y10.out.p⟩)
        have XZ := Lib.hid Y10.out.z
        have XC := Lib.hid Y10.out.cur
        have XO := Lib.hid Y10.out.oth
        have qd0 := Y10.out.bx.cell 0
        have qd1 := Y10.out.bx.cell 1
        have qd2 := Y10.out.bx.cell 2
        have qd3 := Y10.out.bx.cell 3
        simp only [List.getElem?_toArray, List.getElem?_cons_zero, List.getElem?_cons_succ] at qd0 qd1 qd2 qd3
        have qdf0 := Y10.out.bx.frozen 0
        have qdf1 := Y10.out.bx.frozen 1
        have qdf2 := Y10.out.bx.frozen 2
        have qdf3 := Y10.out.bx.frozen 3
        have qz0 := Y10.out.z.cell 0
        have qz1 := Y10.out.z.cell 1
        have qz2 := Y10.out.z.cell 2
        have qz3 := Y10.out.z.cell 3
        simp only [List.getElem?_toArray, List.getElem?_cons_zero, List.getElem?_cons_succ] at qz0 qz1 qz2 qz3
        have qzf0 := Y10.out.z.frozen 0
        have qzf1 := Y10.out.z.frozen 1
        have qzf2 := Y10.out.z.frozen 2
        have qzf3 := Y10.out.z.frozen 3
        clear Y10
        have G0 := Lib.hid (put4 XZ.out (.slice Af F.length cf) (.slice At T.length ct) (.int .i64 n9) (.slice Ap P.length cp))
        have R1 := Lib.hid (ownF.base ((((XF.out.set (p := ⟨w.heap.size, 0, none⟩) (.inl hz0) (.slice Af F.length cf)).set (p := ⟨w.heap.size, 1, none⟩) (.inl hz0) (.slice At T.length ct)).set (p := ⟨w.heap.size, 2, none⟩) (.inl hz0) (.int .i64 n9)).set (p := ⟨w.heap.size, 3, none⟩) (.inl hz0) (.slice Ap P.length cp)) (Nat.le_of_lt hz0))
        have R2 := Lib.hid (ownF.base ((((XT.out.set (p := ⟨w.heap.size, 0, none⟩) (.inl hz0) (.slice Af F.length cf)).set (p := ⟨w.heap.size, 1, none⟩) (.inl hz0) (.slice At T.length ct)).set (p := ⟨w.heap.size, 2, none⟩) (.inl hz0) (.int .i64 n9)).set (p := ⟨w.heap.size, 3, none⟩) (.inl hz0) (.slice Ap P.length cp)) (Nat.le_of_lt hz0))
        have R3 := Lib.hid (ownP.base ((((XP.out.set (p := ⟨w.heap.size, 0, none⟩) (.inl hz0) (.slice Af F.length cf)).set (p := ⟨w.heap.size, 1, none⟩) (.inl hz0) (.slice At T.length ct)).set (p := ⟨w.heap.size, 2, none⟩) (.inl hz0) (.int .i64 n9)).set (p := ⟨w.heap.size, 3, none⟩) (.inl hz0) (.slice Ap P.length cp)) (Nat.le_of_lt hz0))
        have G2 := Lib.hid ((((XC.out.put1 (p := ⟨w.heap.size, 0, none⟩) (u := .slice Af F.length cf) hlt0).put1 (p := ⟨w.heap.size, 1, none⟩) (u := .slice At T.length ct) hlt0).put1 (p := ⟨w.heap.size, 2, none⟩) (u := .int .i64 n9) hlt0).put1 (p := ⟨w.heap.size, 3, none⟩) (u := .slice Ap P.length cp) hlt0)
        have G3 := Lib.hid ((((XO.out.set (p := ⟨w.heap.size, 0, none⟩) (.inr (Nat.le_refl _)) (.slice Af F.length cf)).set (p := ⟨w.heap.size, 1, none⟩) (.inr (Nat.le_refl _)) (.slice At T.length ct)).set (p := ⟨w.heap.size, 2, none⟩) (.inr (Nat.le_refl _)) (.int .i64 n9)).set (p := ⟨w.heap.size, 3, none⟩) (.inr (Nat.le_refl _)) (.slice Ap P.length cp))
        go_wp2_with fail
        generalize ((((w10.setCell ⟨w.heap.size, 0, none⟩ (.slice Af F.length cf)).setCell ⟨w.heap.size, 1, none⟩ (.slice At T.length ct)).setCell ⟨w.heap.size, 2, none⟩ (.int .i64 n9)).setCell ⟨w.heap.size, 3, none⟩ (.slice Ap P.length cp)) = WF at G0 R1 R2 R3 G2 G3 ⊢
        have C0 : WF.cell? ⟨w.heap.size, 0, none⟩ = some (.slice Af F.length cf) := G0.out.cell 0
        have C1 : WF.cell? ⟨w.heap.size, 1, none⟩ = some (.slice At T.length ct) := G0.out.cell 1
        have C2 : WF.cell? ⟨w.heap.size, 2, none⟩ = some (.int .i64 n9) := G0.out.cell 2
        have C3 : WF.cell? ⟨w.heap.size, 3, none⟩ = some (.slice Ap P.length cp) := G0.out.cell 3
        refine bodyPost_ret (v := .agg #[.slice Af F.length cf, .slice At T.length ct, .int .i64 n9, .slice Ap P.length cp]) (by simp [results, Tryz.results63, go_sem, C0, C1, C2, C3]) rfl ?_
        exact ⟨Af, cf, F, At, ct, T, n9, Ap, cp, P, rfl, R1.out, R2.out, R3.out, ⟨hn0, hn1⟩, G2.out.mono (by omega), G3.out⟩
      · have Y8 := Lib.hid (Y.out.mono (K' := k + 29900) (by omega))
        clear Y
        obtain ⟨Af, cf, rfl⟩ := own_form Y8.out.f
        obtain ⟨At, ct, rfl⟩ := own_form Y8.out.t
        obtain ⟨Ap, cp, rfl⟩ := own_form Y8.out.p
        have XF := Lib.hid (show ownF W0 w8 Af cf F from ⟨Y8.out.l.1, Y8.out.f, Y8.out.sf⟩)
        have XT := Lib.hid (show ownF W0 w8 At ct T from ⟨Y8.out.l.2.1, Y8.out.t, Y8.out.st⟩)
        have XP := Lib.hid (show ownP W0 w8 Ap cp P from ⟨Y8.out.l.2.2, Y8.out.p⟩)
        have XZ := Lib.hid Y8.out.z
        have XC := Lib.hid Y8.out.cur
        have XO := Lib.hid Y8.out.oth
        have qd0 := Y8.out.bx.cell 0
        have qd1 := Y8.out.bx.cell 1
        have qd2 := Y8.out.bx.cell 2
        have qd3 := Y8.out.bx.cell 3
        simp only [List.getElem?_toArray, List.getElem?_cons_zero, List.getElem?_cons_succ] at qd0 qd1 qd2 qd3
        have qdf0 := Y8.out.bx.frozen 0
        have qdf1 := Y8.out.bx.frozen 1
        have qdf2 := Y8.out.bx.frozen 2
        have qdf3 := Y8.out.bx.frozen 3
        have qz0 := Y8.out.z.cell 0
        have qz1 := Y8.out.z.cell 1
        have qz2 := Y8.out.z.cell 2
        have qz3 := Y8.out.z.cell 3
        simp only [List.getElem?_toArray, List.getElem?_cons_zero, List.getElem?_cons_succ] at qz0 qz1 qz2 qz3
        have qzf0 := Y8.out.z.frozen 0
        have qzf1 := Y8.out.z.frozen 1
        have qzf2 := Y8.out.z.frozen 2
        have qzf3 := Y8.out.z.frozen 3
        clear Y8
        have G0 := Lib.hid (put4 XZ.out (.slice Af F.length cf) (.slice At T.length ct) (.int .i64 n) (.slice Ap P.length cp))
        have R1 := Lib.hid (ownF.base ((((XF.out.set (p := ⟨w.heap.size, 0, none⟩) (.inl hz0) (.slice Af F.length cf)).set (p := ⟨w.heap.size, 1, none⟩) (.inl hz0) (.slice At T.length ct)).set (p := ⟨w.heap.size, 2, none⟩) (.inl hz0) (.int .i64 n)).set (p := ⟨w.heap.size, 3, none⟩) (.inl hz0) (.slice Ap P.length cp)) (Nat.le_of_lt hz0))
        have R2 := Lib.hid (ownF.base ((((XT.out.set (p := ⟨w.heap.size, 0, none⟩) (.inl hz0) (.slice Af F.length cf)).set (p := ⟨w.heap.size, 1, none⟩) (.inl hz0) (.slice At T.length ct)).set (p := ⟨w.heap.size, 2, none⟩) (.inl hz0) (.int .i64 n)).set (p := ⟨w.heap.size, 3, none⟩) (.inl hz0) (.slice Ap P.length cp)) (Nat.le_of_lt hz0))
        have R3 := Lib.hid (ownP.base ((((XP.out.set (p := ⟨w.heap.size, 0, none⟩) (.inl hz0) (.slice Af F.length cf)).set (p := ⟨w.heap.size, 1, none⟩) (.inl hz0) (.slice At T.length ct)).set (p := ⟨w.heap.size, 2, none⟩) (.inl hz0) (.int .i64 n)).set (p := ⟨w.heap.size, 3, none⟩) (.inl hz0) (.slice Ap P.length cp)) (Nat.le_of_lt hz0))
        have G2 := Lib.hid ((((XC.out.put1 (p := ⟨w.heap.size, 0, none⟩) (u := .slice Af F.length cf) hlt0).put1 (p := ⟨w.heap.size, 1, none⟩) (u := .slice At T.length ct) hlt0).put1 (p := ⟨w.heap.size, 2, none⟩) (u := .int .i64 n) hlt0).put1 (p := ⟨w.heap.size, 3, none⟩) (u := .slice Ap P.length cp) hlt0)
        have G3 := Lib.hid ((((XO.out.set (p := ⟨w.heap.size, 0, none⟩) (.inr (Nat.le_refl _)) (.slice Af F.length cf)).set (p := ⟨w.heap.size, 1, none⟩) (.inr (Nat.le_refl _)) (.slice At T.length ct)).set (p := ⟨w.heap.size, 2, none⟩) (.inr (Nat.le_refl _)) (.int .i64 n)).set (p := ⟨w.heap.size, 3, none⟩) (.inr (Nat.le_refl _)) (.slice Ap P.length cp))
        go_wp2_with fail
        generalize ((((w8.setCell ⟨w.heap.size, 0, none⟩ (.slice Af F.length cf)).setCell ⟨w.heap.size, 1, none⟩ (.slice At T.length ct)).setCell ⟨w.heap.size, 2, none⟩ (.int .i64 n)).setCell ⟨w.heap.size, 3, none⟩ (.slice Ap P.length cp)) = WF at G0 R1 R2 R3 G2 G3 ⊢
        have C0 : WF.cell? ⟨w.heap.size, 0, none⟩ = some (.slice Af F.length cf) := G0.out.cell 0
        have C1 : WF.cell? ⟨w.heap.size, 1, none⟩ = some (.slice At T.length ct) := G0.out.cell 1
        have C2 : WF.cell? ⟨w.heap.size, 2, none⟩ = some (.int .i64 n) := G0.out.cell 2
        have C3 : WF.cell? ⟨w.heap.size, 3, none⟩ = some (.slice Ap P.length cp) := G0.out.cell 3
        refine bodyPost_ret (v := .agg #[.slice Af F.length cf, .slice At T.length ct, .int .i64 n, .slice Ap P.length cp]) (by simp [results, Tryz.results63, go_sem, C0, C1, C2, C3]) rfl ?_
        exact ⟨Af, cf, F, At, ct, T, n, Ap, cp, P, rfl, R1.out, R2.out, R3.out, ⟨hn0, hn1⟩, G2.out.mono (by omega), G3.out⟩
    · have hd : decide ((16 : Int) < n) = false := decide_eq_false h16
      have dn : w7.cell? ⟨b, 2, none⟩ = some (.int .i64 n) := X.out.bx.cell 2
      have Y8 := Lib.hid (X.out.mono (K' := k + 29900) (by omega))
      clear X
      go_upto_region 15 with (fail)
      clear dn hd
      obtain ⟨Af, cf, rfl⟩ := own_form Y8.out.f
      obtain ⟨At, ct, rfl⟩ := own_form Y8.out.t
      obtain ⟨Ap, cp, rfl⟩ := own_form Y8.out.p
      have XF := Lib.hid (show ownF W0 w7 Af cf F from ⟨Y8.out.l.1, Y8.out.f, Y8.out.sf⟩)
      have XT := Lib.hid (show ownF W0 w7 At ct T from ⟨Y8.out.l.2.1, Y8.out.t, Y8.out.st⟩)
      have XP := Lib.hid (show ownP W0 w7 Ap cp P from ⟨Y8.out.l.2.2, Y8.out.p⟩)
      have XZ := Lib.hid Y8.out.z
      have XC := Lib.hid Y8.out.cur
      have XO := Lib.hid Y8.out.oth
      have qd0 := Y8.out.bx.cell 0
      have qd1 := Y8.out.bx.cell 1
      have qd2 := Y8.out.bx.cell 2
      have qd3 := Y8.out.bx.cell 3
      simp only [List.getElem?_toArray, List.getElem?_cons_zero, List.getElem?_cons_succ] at qd0 qd1 qd2 qd3
      have qdf0 := Y8.out.bx.frozen 0
      have qdf1 := Y8.out.bx.frozen 1
      have qdf2 := Y8.out.bx.frozen 2
      have qdf3 := Y8.out.bx.frozen 3
      have qz0 := Y8.out.z.cell 0
      have qz1 := Y8.out.z.cell 1
      have qz2 := Y8.out.z.cell 2
      have qz3 := Y8.out.z.cell 3
      simp only [List.getElem?_toArray, List.getElem?_cons_zero, List.getElem?_cons_succ] at qz0 qz1 qz2 qz3
      have qzf0 := Y8.out.z.frozen 0
      have qzf1 := Y8.out.z.frozen 1
      have qzf2 := Y8.out.z.frozen 2
      have qzf3 := Y8.out.z.frozen 3
      clear Y8
      have G0 := Lib.hid (put4 XZ.out (.slice Af F.length cf) (.slice At T.length ct) (.int .i64 n) (.slice Ap P.length cp))
      have R1 := Lib.hid (ownF.base ((((XF.out.set (p := ⟨w.heap.size, 0, none⟩) (.inl hz0) (.slice Af F.length cf)).set (p := ⟨w.heap.size, 1, none⟩) (.inl hz0) (.slice At T.length ct)).set (p := ⟨w.heap.size, 2, none⟩) (.inl hz0) (.int .i64 n)).set (p := ⟨w.heap.size, 3, none⟩) (.inl hz0) (.slice Ap P.length cp)) (Nat.le_of_lt hz0))
      have R2 := Lib.hid (ownF.base ((((XT.out.set (p := ⟨w.heap.size, 0, none⟩) (.inl hz0) (.slice Af F.length cf)).set (p := ⟨w.heap.size, 1, none⟩) (.inl hz0) (.slice At T.length ct)).set (p := ⟨w.heap.size, 2, none⟩) (.inl hz0) (.int .i64 n)).set (p := ⟨w.heap.size, 3, none⟩) (.inl hz0) (.slice Ap P.length cp)) (Nat.le_of_lt hz0))
      have R3 := Lib.hid (ownP.base ((((XP.out.set (p := ⟨w.heap.size, 0, none⟩) (.inl hz0) (.slice Af F.length cf)).set (p := ⟨w.heap.size, 1, none⟩) (.inl hz0) (.slice At T.length ct)).set (p := ⟨w.heap.size, 2, none⟩) (.inl hz0) (.int .i64 n)).set (p := ⟨w.heap.size, 3, none⟩) (.inl hz0) (.slice Ap P.length cp)) (Nat.le_of_lt hz0))
      have G2 := Lib.hid ((((XC.out.put1 (p := ⟨w.heap.size, 0, none⟩) (u := .slice Af F.length cf) hlt0).put1 (p := ⟨w.heap.size, 1, none⟩) (u := .slice At T.length ct) hlt0).put1 (p := ⟨w.heap.size, 2, none⟩) (u := .int .i64 n) hlt0).put1 (p := ⟨w.heap.size, 3, none⟩) (u := .slice Ap P.length cp) hlt0)
      have G3 := Lib.hid ((((XO.out.set (p := ⟨w.heap.size, 0, none⟩) (.inr (Nat.le_refl _)) (.slice Af F.length cf)).set (p := ⟨w.heap.size, 1, none⟩) (.inr (Nat.le_refl _)) (.slice At T.length ct)).set (p := ⟨w.heap.size, 2, none⟩) (.inr (Nat.le_refl _)) (.int .i64 n)).set (p := ⟨w.heap.size, 3, none⟩) (.inr (Nat.le_refl _)) (.slice Ap P.length cp))
      go_wp2_with fail
      generalize ((((w7.setCell ⟨w.heap.size, 0, none⟩ (.slice Af F.length cf)).setCell ⟨w.heap.size, 1, none⟩ (.slice At T.length ct)).setCell ⟨w.heap.size, 2, none⟩ (.int .i64 n)).setCell ⟨w.heap.size, 3, none⟩ (.slice Ap P.length cp)) = WF at G0 R1 R2 R3 G2 G3 ⊢
      have C0 : WF.cell? ⟨w.heap.size, 0, none⟩ = some (.slice Af F.length cf) := G0.out.cell 0
      have C1 : WF.cell? ⟨w.heap.size, 1, none⟩ = some (.slice At T.length ct) := G0.out.cell 1
      have C2 : WF.cell? ⟨w.heap.size, 2, none⟩ = some (.int .i64 n) := G0.out.cell 2
      have C3 : WF.cell? ⟨w.heap.size, 3, none⟩ = some (.slice Ap P.length cp) := G0.out.cell 3
      refine bodyPost_ret (v := .agg #[.slice Af F.length cf, .slice At T.length ct, .int .i64 n, .slice Ap P.length cp]) (by simp [results, Tryz.results63, go_sem, C0, C1, C2, C3]) rfl ?_
      exact ⟨Af, cf, F, At, ct, T, n, Ap, cp, P, rfl, R1.out, R2.out, R3.out, ⟨hn0, hn1⟩, G2.out.mono (by omega), G3.out⟩

end Go.Proofs.YthehcjfljjfnmaaGreat
