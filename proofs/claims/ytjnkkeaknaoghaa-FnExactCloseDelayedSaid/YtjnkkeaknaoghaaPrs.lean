/-
  Pairs in memory (a slice of slices): the laws' own functions on them.
-/
import Derived.Test.YtjnkkeaknaoghaaDek
import Derived.Test.YtjnkkeaknaoghaaCpy
import Derived.Lib.QuietBelow
namespace Go.Proofs.Ytjnkkeaknaoghaa
open Go.RowKit Go.Sort Go.Lib

def sl2 (b : Nat) : Value := .slice (some ⟨b, 0, none⟩) 2 2
/-- Pairs that a call has handed back, all in blocks lo .. hi. -/
def PR (w : World) (lo hi : Nat) (A : Option Addr) (c : Nat) (V : List (Nat × Nat)) : Prop :=
  ∃ bs : List Nat, w.ownsRow lo 23 1 (.slice A V.length c) V.length (bs.map sl2) ∧ (∀ a, (Value.slice A V.length c).ownBlock = some a → a < hi) ∧ bs.length = V.length ∧ (∀ b, b ∈ bs → lo ≤ b ∧ b < hi) ∧ bs.Pairwise (· < ·) ∧ hi ≤ w.heap.size ∧
    ∀ (i b : Nat) (x : Nat × Nat), bs[i]? = some b → V[i]? = some x → Blk w b #[.int .i64 (x.1 : Int), .int .i64 (x.2 : Int)] 3 ∧ (Value.slice A V.length c).ownBlock ≠ some b
theorem sl_flat : ∀ bs : List Nat, bs.map sl2 = bs.flatMap (fun b => [sl2 b])
  | [] => rfl
  | b :: bs => by rw [List.map_cons, List.flatMap_cons, sl_flat bs]; rfl
theorem own_same {w w' : World} {base : Nat} {e : TypeId} {size : Nat} {v : Value} {n : Nat} {xs : List Value} (h : w.ownsRow base e size v n xs) (hs : ∀ g, v.ownBlock = some g → w'.heap[g]? = w.heap[g]?) : w'.ownsRow base e size v n xs := by
  refine ⟨h.1, ?_⟩
  rcases h.2 with h2 | ⟨g, cap, cur, h2, h3, h4, h5⟩
  · exact .inl h2
  · exact .inr ⟨g, cap, cur, h2, h3, (hs g (by rw [h2]; rfl)).trans h4, h5⟩
theorem PR.same {w w' : World} {lo hi : Nat} {A : Option Addr} {c : Nat} {V : List (Nat × Nat)} (h : PR w lo hi A c V) (hz : w.heap.size ≤ w'.heap.size) (hs : ∀ b, lo ≤ b → b < hi → w'.heap[b]? = w.heap[b]?) : PR w' lo hi A c V := by
  obtain ⟨bs, h1, h2, h3, h4, h5, h6, h7⟩ := h
  refine ⟨bs, own_same h1 (fun g hg => hs g (h1.lt g hg).1 (h2 g hg)), h2, h3, h4, h5, by omega, fun i b x e1 e2 => ⟨?_, (h7 i b x e1 e2).2⟩⟩
  have hb := h4 b (List.mem_of_getElem? e1)
  exact (hs b hb.1 hb.2).trans (h7 i b x e1 e2).1
theorem PR.below {w w' : World} {lo hi : Nat} {A : Option Addr} {c : Nat} {V : List (Nat × Nat)} (h : PR w lo hi A c V) (hb : Below w.heap.size w w') : PR w' lo hi A c V := by
  have h6 : hi ≤ w.heap.size := by obtain ⟨bs, h1, h2, h3, h4, h5, h6, h7⟩ := h; exact h6
  exact h.same hb.size (fun b _ hbh => hb.block b (by omega))
theorem PR.belowB {w w' : World} {B lo hi : Nat} {A : Option Addr} {c : Nat} {V : List (Nat × Nat)} (h : PR w lo hi A c V) (hb : Below B w w') (hB : hi ≤ B) : PR w' lo hi A c V :=
  h.same hb.size (fun b _ hbh => hb.block b (by omega))
theorem PR.grown {w w' : World} {row : Option Nat} {lo hi : Nat} {A : Option Addr} {c : Nat} {V : List (Nat × Nat)} (h : PR w lo hi A c V) (hg : w.grownBy w' row) (hr : ∀ k, row = some k → k < lo ∨ hi ≤ k) : PR w' lo hi A c V := by
  have h6 : hi ≤ w.heap.size := by obtain ⟨bs, h1, h2, h3, h4, h5, h6, h7⟩ := h; exact h6
  exact h.same hg.size (fun b hbl hbh => hg.block b (by omega) (fun e => by have := hr b e.symm; omega))
theorem PR.of {w w' : World} {V : List (Nat × Nat)} {A : Option Addr} {c : Nat} {vals : List Value} (ho : w'.ownsRow w.heap.size 23 1 (.slice A V.length c) V.length vals) (hp : PrOk w' w.heap.size (.slice A V.length c) vals V) : PR w' w.heap.size w'.heap.size A c V := by
  obtain ⟨bs, rfl, h2, h3, h4, h5⟩ := hp
  refine ⟨bs, ho, fun a ha => (ho.lt a ha).2, h2, fun b hb => ⟨h3 b hb, ?_⟩, h4, Nat.le_refl _, h5⟩
  obtain ⟨j, hj⟩ := List.getElem?_of_mem hb
  obtain ⟨x, hx⟩ := some_of_lt (L := V) (k := j) (by rw [← h2]; exact (List.getElem?_eq_some_iff.1 hj).1)
  exact (h5 j b x hj hx).1.lt
theorem blk_mem {w : World} {b : Nat} {x y : Int} {t : TypeId} (h : Blk w b #[.int .i64 x, .int .i64 y] t) : Mem w (some ⟨b, 0, none⟩) (ints [x, y]) := fun _ => ⟨b, 0, rfl, fun j u hu => by
  rw [Nat.zero_add, h.cell j]
  match j, hu with
  | 0, hu => simpa [ints] using hu
  | 1, hu => simpa [ints] using hu
  | j + 2, hu => simp [ints] at hu⟩
theorem blk_own {w : World} {b : Nat} {x y : Int} {t : TypeId} (h : Blk w b #[.int .i64 x, .int .i64 y] t) : w.ownsRow b t 1 (.slice (some ⟨b, 0, none⟩) 2 2) 2 (ints [x, y]) :=
  ⟨rfl, .inr ⟨b, 2, #[.int .i64 x, .int .i64 y], rfl, Nat.le_refl _, h, Nat.le_refl _, by unfold maxLen; omega, rfl, rfl⟩⟩
theorem own_blk {w : World} {base b : Nat} {x y : Int} {t : TypeId} (h : w.ownsRow base t 1 (.slice (some ⟨b, 0, none⟩) 2 2) 2 (ints [x, y])) : Blk w b #[.int .i64 x, .int .i64 y] t := by
  rcases h.2 with ⟨h2, _⟩ | ⟨g, cap, cur, h2, h3, h4, h5, h6, h7, h8⟩
  · simp at h2
  · simp only [Value.slice.injEq, Option.some.injEq, Addr.mk.injEq, and_true, true_and] at h2
    obtain ⟨rfl, rfl⟩ := h2
    have e : cur = #[.int .i64 x, .int .i64 y] := by
      apply Array.toList_inj.1
      rw [List.take_of_length_le (by simp [h7])] at h8
      rw [h8]; rfl
    rw [← e]; exact h4
set_option maxRecDepth 100000 in
set_option maxHeartbeats 3200000 in
theorem eqIntSS_same (lo hi lo' hi' : Nat) (A B : Option Addr) (c d : Nat) (V : List (Nat × Nat)) (w : World) (ha : PR w lo hi A c V) (hb : PR w lo' hi' B d V) (hl : V.length ≤ 1048576) : Calls Try.prog 35 #[.slice A V.length c, .slice B V.length d] w fun e w' => e = .returned (.bool true) ∧ Below w.heap.size w w' := by
  have HA := Lib.hid ha
  have HB := Lib.hid hb
  have hL : ((V.length : Int) != V.length) = false := by simp
  clear ha hb
  go_enter Try.func35, Try.ntmps35
  go_wp2
  go_loopw [5] (fun i wr => ∃ k : Nat, k ≤ V.length ∧ i = .int .i64 k ∧ Below w.heap.size w wr) (fun i _ => V.length - (intOf i).toNat)
  case atStart => exact ⟨0, by omega, rfl, Below.refl _ _⟩
  case round =>
    obtain ⟨k, hk, rfl, hbw⟩ := hrel
    by_cases hlt : k < V.length
    · obtain ⟨⟨x, y⟩, hx⟩ := some_of_lt hlt
      obtain ⟨bs, h1, h2, h3, h4, h5, h6, h7⟩ := HA.out.below hbw
      obtain ⟨cs, g1, g2, g3, g4, g5, g6, g7⟩ := HB.out.below hbw
      obtain ⟨b, hb⟩ := some_of_lt (L := bs) (k := k) (by omega)
      obtain ⟨b', hb'⟩ := some_of_lt (L := cs) (k := k) (by omega)
      have q1 := blk_mem (h7 k b _ hb hx).1
      have q2 := blk_mem (g7 k b' _ hb' hx).1
      obtain ⟨a1, o1, rfl, m1⟩ := Mem.elem (f := fun b => [sl2 b]) (sz := 1) (fun _ => rfl) (by rw [← sl_flat]; exact Mem.of_own h1) hb (by omega)
      obtain ⟨a2, o2, rfl, m2⟩ := Mem.elem (f := fun b => [sl2 b]) (sz := 1) (fun _ => rfl) (by rw [← sl_flat]; exact Mem.of_own g1) hb' (by omega)
      have c1 := m1 0 _ rfl
      have c2 := m2 0 _ rfl
      simp only [Nat.mul_one, Nat.add_zero, sl2] at c1 c2
      have k1 : ∀ dd os, (grow (redrawn wr dd) os).cell? ⟨a1, o1 + k, none⟩ = some (.slice (some ⟨b, 0, none⟩) 2 2) := cell_regrown c1
      have k2 : ∀ dd os, (grow (redrawn wr dd) os).cell? ⟨a2, o2 + k, none⟩ = some (.slice (some ⟨b', 0, none⟩) 2 2) := cell_regrown c2
      have C1 := Lib.hid (show ∀ dd os, Calls Try.prog 16 #[.slice (some ⟨b, 0, none⟩) 2 2, .slice (some ⟨b', 0, none⟩) 2 2] (grow (redrawn wr dd) os) (fun e w'' => e = .returned (.bool true) ∧ ∃ p : Regrown, w'' = grow (redrawn wr p.d) p.os) from fun dd os => Calls.regrown_of ((eqIntS_any (some ⟨b, 0, none⟩) (some ⟨b', 0, none⟩) 2 2 [(x : Int), (y : Int)] [(x : Int), (y : Int)] _ (q1.below (below_regrown wr dd os)) (q2.below (below_regrown wr dd os)) (by simp) (by simp)).mono (by rintro e w' ⟨he, hb⟩; rw [decide_eq_true rfl] at he; exact ⟨he, hb⟩)))
      clear q1 q2 h1 h2 h3 h4 h5 h6 h7 g1 g2 g3 g4 g5 g6 g7 hb hb' hx m1 m2
      go_wp2
      refine wp_region_quiet_below (by kernel_rfl) (by kernel_rfl) ?_
      repeat (first | go_big_quiet_step (first | with_reducible exact C1.out _ _) | quiet_step (first | with_reducible exact C1.out _ _))
      refine wpQuiet_nil ?_
      intro _ hw'
      obtain ⟨⟨dq, osq⟩, hw''⟩ := hw'
      subst hw''
      have hb5 := below_regrown (wr) dq osq
      generalize hW2 : grow (redrawn wr dq) osq = W2 at *
      clear hW2
      go_wp2
      go_roundw
      case rel => exact ⟨k + 1, by omega, by go_num, Below.next hb5 hbw hbw.size⟩
      case measure => simp [intOf]; omega
    · go_wp2
      go_ret
      exact ⟨rfl, hbw⟩

theorem run2 (k : Int) : ints (run k 2) = ints [k, k + 1] := by
  have : run k 2 = [k, k + 1] := by simp [run, List.range_succ]
  rw [this]
theorem mark2 (b : Nat) (x y k : Int) (w : World) (h : Blk w b #[.int .i64 x, .int .i64 y] 3) (h0 : 0 ≤ k) (h1 : k ≤ 1000000000) : Calls Try.prog 19 #[.slice (some ⟨b, 0, none⟩) 2 2, .int .i64 k] w fun e w' => e = .returned (.int .i64 (k + 2)) ∧ Blk w' b #[.int .i64 k, .int .i64 (k + 1)] 3 ∧ w.grownBy w' (some b) :=
  (markIntS_any b (some ⟨b, 0, none⟩) 2 [x, y] k w (blk_own h) (by simp) h0 h1).mono (by
    rintro e w' ⟨rfl, ho, hg⟩
    refine ⟨rfl, own_blk (base := b) ?_, hg⟩
    rw [← run2]
    exact ho)
theorem held2 (b : Nat) (k : Int) (w : World) (h : Blk w b #[.int .i64 k, .int .i64 (k + 1)] 3) (h0 : 0 ≤ k) (h1 : k ≤ 1000000000) : Calls Try.prog 20 #[.slice (some ⟨b, 0, none⟩) 2 2, .int .i64 k] w fun e w' => e = .returned (.int .i64 (k + 2)) ∧ w = w' :=
  heldIntS_any (some ⟨b, 0, none⟩) 2 2 k w (by rw [run2]; exact blk_mem h) (by omega) h0 h1
theorem row_at {w : World} {lo : Nat} {e : TypeId} {A : Option Addr} {n c k b : Nat} {bs : List Nat} (h : w.ownsRow lo e 1 (.slice A n c) n (bs.map sl2)) (hb : bs[k]? = some b) : ∃ a o, A = some ⟨a, o, none⟩ ∧ w.cell? ⟨a, o + k, none⟩ = some (.slice (some ⟨b, 0, none⟩) 2 2) := by
  obtain ⟨a1, o1, rfl, m1⟩ := Mem.elem (f := fun b => [sl2 b]) (sz := 1) (fun _ => rfl) (by rw [← sl_flat]; exact Mem.of_own h) hb (by omega)
  have c1 := m1 0 _ rfl
  simp only [Nat.mul_one, Nat.add_zero] at c1
  exact ⟨a1, o1, rfl, c1⟩
/-- Pairs whose numbers are marks. -/
def MkOk (w : World) (lo : Nat) (A : Option Addr) (c n : Nat) (k0 : Int) : Prop :=
  ∃ bs : List Nat, w.ownsRow lo 23 1 (.slice A n c) n (bs.map sl2) ∧ bs.length = n ∧ ∀ (j b : Nat), bs[j]? = some b → Blk w b #[.int .i64 (k0 + 2 * (j : Int)), .int .i64 (k0 + 2 * (j : Int) + 1)] 3
theorem MkOk.below {w w' : World} {lo : Nat} {A : Option Addr} {c n : Nat} {k0 : Int} (h : MkOk w lo A c n k0) (hb : Below w.heap.size w w') : MkOk w' lo A c n k0 := by
  obtain ⟨bs, h1, h2, h3⟩ := h
  exact ⟨bs, own_below h1 hb, h2, fun j b e => (h3 j b e).below hb (h3 j b e).lt⟩
set_option maxRecDepth 100000 in
set_option maxHeartbeats 3200000 in
theorem markIntSS_any (lo hi : Nat) (A : Option Addr) (c : Nat) (V : List (Nat × Nat)) (k0 : Int) (w : World) (ha : PR w lo hi A c V) (hl : V.length ≤ 1048576) (h0 : 0 ≤ k0) (h1 : k0 ≤ 1000000) : Calls Try.prog 36 #[.slice A V.length c, .int .i64 k0] w fun e w' => e = .returned (.int .i64 (k0 + 2 * (V.length : Int))) ∧ MkOk w' lo A c V.length k0 ∧ Below lo w w' := by
  obtain ⟨bs, o1, o2, o3, o4, o5, o6, o7⟩ := ha
  have O1 := Lib.hid o1
  have O4 := Lib.hid o4
  have O5 := Lib.hid o5
  have O7 := Lib.hid o7
  clear o1 o2 o4 o5 o7
  go_enter Try.func36, Try.ntmps36
  go_wp2
  go_loopw [1, 5] (fun kk i wr => ∃ k : Nat, k ≤ V.length ∧ i = .int .i64 k ∧ kk = .int .i64 (k0 + 2 * (k : Int)) ∧ wr.ownsRow lo 23 1 (.slice A V.length c) V.length (bs.map sl2) ∧ Hid (∀ (j b : Nat) (x : Nat × Nat), bs[j]? = some b → V[j]? = some x → Blk wr b (if j < k then #[.int .i64 (k0 + 2 * (j : Int)), .int .i64 (k0 + 2 * (j : Int) + 1)] else #[.int .i64 (x.1 : Int), .int .i64 (x.2 : Int)]) 3) ∧ Below lo w wr) (fun _ i _ => V.length - (intOf i).toNat)
  case atStart => exact ⟨0, by omega, rfl, by simp, O1.out, Lib.hid (fun j b x e1 e2 => (O7.out j b x e1 e2).1), Below.refl _ _⟩
  case round =>
    obtain ⟨k, hk, rfl, rfl, hown, HB, hbw⟩ := hrel
    by_cases hlt : k < V.length
    · obtain ⟨⟨x, y⟩, hx⟩ := some_of_lt hlt
      obtain ⟨b, hb⟩ := some_of_lt (L := bs) (k := k) (by omega)
      have hne := (O7.out k b _ hb hx).2
      have hlb := (O4.out b (List.mem_of_getElem? hb)).1
      obtain ⟨a1, p1, rfl, m1⟩ := row_at hown hb
      have q0 := HB.out k b _ hb hx
      rw [if_neg (by omega)] at q0
      have HOWN := Lib.hid hown
      have HX := Lib.hid hx
      have HBB := Lib.hid hb
      have HNE := Lib.hid hne
      have Q0 := Lib.hid q0
      clear hown hx hb hne q0
      go_wp2_with fail
      refine (mark2 b x y (k0 + 2 * (k : Int)) _ Q0.out (by omega) (by omega)).mono ?_
      rintro e w2 ⟨rfl, hq2, hg2⟩
      have HQ2 := Lib.hid hq2
      have HG2 := Lib.hid hg2
      clear hq2 hg2
      go_wp2_with fail
      go_roundw
      case rel =>
        refine ⟨k + 1, by omega, by go_num, by go_num, own_kept HOWN.out HG2.out (fun r hr j hj e => HNE.out (by rw [hj, e, hr])), Lib.hid (fun j b' x' e1 e2 => ?_), below_grown hbw HG2.out (by have := Q0.out.lt; omega) (fun r hr => by have := Option.some.inj hr; omega)⟩
        by_cases hj : j = k
        · subst hj
          have : b' = b := by rw [HBB.out] at e1; exact (Option.some.inj e1).symm
          subst this
          rw [if_pos (by omega)]
          exact HQ2.out
        · have hbb : b' ≠ b := by
            intro e
            subst e
            have hp := List.pairwise_iff_getElem.1 O5.out
            obtain ⟨j1, j2⟩ := List.getElem?_eq_some_iff.1 e1
            obtain ⟨k1, k2⟩ := List.getElem?_eq_some_iff.1 HBB.out
            rcases Nat.lt_or_gt_of_ne hj with h | h
            · have := hp j k j1 k1 h; omega
            · have := hp k j k1 j1 h; omega
          have h5 := HB.out j b' x' e1 e2
          have h6 : Blk w2 b' _ _ := (HG2.out.block b' h5.lt (fun e => hbb (Option.some.inj e))).trans h5
          by_cases hjk : j < k
          · rw [if_pos hjk] at h6
            rw [if_pos (by omega)]
            exact h6
          · rw [if_neg hjk] at h6
            rw [if_neg (by omega)]
            exact h6
      case measure => simp [intOf]; omega
    · go_wp2
      go_ret
      have e3 : k = V.length := by omega
      subst e3
      refine ⟨rfl, ⟨bs, hown, o3, fun j b e => ?_⟩, hbw⟩
      obtain ⟨x, hx⟩ := some_of_lt (L := V) (k := j) (by rw [← o3]; exact (List.getElem?_eq_some_iff.1 e).1)
      have h5 := HB.out j b x e hx
      rwa [if_pos (List.getElem?_eq_some_iff.1 hx).1] at h5
set_option maxRecDepth 100000 in
set_option maxHeartbeats 3200000 in
theorem heldIntSS_any (lo : Nat) (A : Option Addr) (c n : Nat) (k0 : Int) (w : World) (ha : MkOk w lo A c n k0) (hl : n ≤ 1048576) (h0 : 0 ≤ k0) (h1 : k0 ≤ 1000000) : Calls Try.prog 37 #[.slice A n c, .int .i64 k0] w fun e w' => e = .returned (.int .i64 (k0 + 2 * (n : Int))) ∧ w = w' := by
  obtain ⟨bs, o1, o3, o7⟩ := ha
  have O1 := Lib.hid o1
  have O7 := Lib.hid o7
  clear o1 o7
  go_enter Try.func37, Try.ntmps37
  go_wp2
  go_loop [1, 5] (fun kk i => ∃ k : Nat, k ≤ n ∧ i = .int .i64 k ∧ kk = .int .i64 (k0 + 2 * (k : Int))) (fun _ i => n - (intOf i).toNat)
  case atStart => exact ⟨0, by omega, rfl, by simp⟩
  case round =>
    obtain ⟨k, hk, rfl, rfl⟩ := hrel
    by_cases hlt : k < n
    · obtain ⟨b, hb⟩ := some_of_lt (L := bs) (k := k) (by omega)
      obtain ⟨a1, p1, rfl, m1⟩ := row_at O1.out hb
      have Q0 := Lib.hid (O7.out k b hb)
      clear hb
      go_wp2_with fail
      refine (held2 b (k0 + 2 * (k : Int)) _ Q0.out (by omega) (by omega)).mono ?_
      rintro e w2 ⟨rfl, rfl⟩
      go_wp2_with fail
      go_round
      case rel => exact ⟨k + 1, by omega, by go_num, by go_num⟩
      case measure => simp [intOf]; omega
    · go_wp2
      go_ret
      have e3 : k = n := by omega
      subst e3
      exact ⟨rfl, rfl⟩

theorem spec_CloseDelayed_pr (A : Option Addr) (c : Nat) (F : List Sp) (B : Option Addr) (d : Nat) (T : List Sp) (n : Int) (C : Option Addr) (f : Nat) (P : List Int) (E : Option Addr) (g : Nat) (D : List Int) (L : Int) (w : World) (hf : Mem w A (spots F)) (ht : Mem w B (spots T)) (hp : Mem w C (ints P)) (lf : F.length ≤ 1048576) (lt : T.length ≤ 1048576) (lp : P.length ≤ 1048576) (hfc : F.length ≤ c) (htc : T.length ≤ d) (hpc : P.length ≤ f) (hd : Mem w E (ints D)) (ld : D.length ≤ 1048576) (hdc : D.length ≤ g) : Calls Try.prog 33 #[.agg #[.slice A F.length c, .slice B T.length d, .int .i64 n, .slice C P.length f], .slice E D.length g, .int .i64 L] w fun e w' => ∃ A' c', e = .returned (.tuple #[.slice A' (cpV F T n P D L).length c', .bool (irOk F T n P D L)]) ∧ PR w' w.heap.size w'.heap.size A' c' (cpV F T n P D L) ∧ Below w.heap.size w w' :=
  (spec_CloseDelayed_any A c F B d T n C f P E g D L w hf ht hp lf lt lp hfc htc hpc hd ld hdc).mono (by
    rintro e w' ⟨A', c', vals, he, ho, hp, hb⟩
    exact ⟨A', c', he, PR.of ho hp, hb⟩)

theorem impl_CloseDelayed_pr (A : Option Addr) (c : Nat) (F : List Sp) (B : Option Addr) (d : Nat) (T : List Sp) (n : Int) (C : Option Addr) (f : Nat) (P : List Int) (E : Option Addr) (g : Nat) (D : List Int) (L : Int) (w : World) (hf : Mem w A (spots F)) (ht : Mem w B (spots T)) (hp : Mem w C (ints P)) (lf : F.length ≤ 1048576) (lt : T.length ≤ 1048576) (lp : P.length ≤ 1048576) (hfc : F.length ≤ c) (htc : T.length ≤ d) (hpc : P.length ≤ f) (hd : Mem w E (ints D)) (ld : D.length ≤ 1048576) (hdc : D.length ≤ g) : Calls Try.prog 34 #[.agg #[.slice A F.length c, .slice B T.length d, .int .i64 n, .slice C P.length f], .slice E D.length g, .int .i64 L] w fun e w' => ∃ A' c', e = .returned (.tuple #[.slice A' (cpV F T n P D L).length c', .bool (irOk F T n P D L)]) ∧ PR w' w.heap.size w'.heap.size A' c' (cpV F T n P D L) ∧ Below w.heap.size w w' :=
  (impl_CloseDelayed_any A c F B d T n C f P E g D L w hf ht hp lf lt lp hfc htc hpc hd ld hdc).mono (by
    rintro e w' ⟨A', c', vals, he, ho, hp, hb⟩
    exact ⟨A', c', he, PR.of ho hp, hb⟩)

end Go.Proofs.Ytjnkkeaknaoghaa
