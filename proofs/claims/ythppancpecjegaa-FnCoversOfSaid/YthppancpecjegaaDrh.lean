/-
  Draws of covers: DrawIsCoverOf.
-/
import Derived.Test.YthppancpecjegaaDrg
import Derived.Test.YthppancpecjegaaAbl
import Derived.Deep.RegionHeld3
import Derived.Deep.DeepCutAuto
namespace Go.Proofs.Ythppancpecjegaa
open Go.RowKit

theorem mem_oth {w w' : World} {A : Option Addr} {xs : List Value} (h : Mem w A xs) (he : ∀ b o, A = some ⟨b, o, none⟩ → w'.heap[b]? = w.heap[b]?) : Mem w' A xs := fun hne => by
  obtain ⟨b, off, e, hc⟩ := h hne
  exact ⟨b, off, e, fun j x hx => (World.cell?_of_block (a := ⟨b, off + j, none⟩) (he b off e)).trans (hc j x hx)⟩
theorem ints_map : ∀ L : List Int, ints L = L.map (Value.int .i64)
  | [] => rfl
  | x :: L => by
    have := ints_map L
    simp only [ints, List.flatMap_cons, List.map_cons] at *
    rw [this]; rfl
/-- Where the numbers behind the k-th lie. -/
theorem rest_at {w : World} {b off k cs : Nat} {S : List Int} (hm : Mem w (some ⟨b, off, none⟩) (ints S)) (hk : k < S.length) (hc : S.length ≤ cs) :
    ∃ ad : Addr, (if cs = k + 1 then (some ⟨b, off, none⟩ : Option Addr) else some ⟨b, off + (k + 1), none⟩) = some ad ∧ ∀ j u, (ints (S.drop (k + 1)))[j]? = some u → w.cell? (ad.add j) = some u := by
  by_cases h : cs = k + 1
  · refine ⟨⟨b, off, none⟩, by rw [if_pos h], fun j u hu => ?_⟩
    rw [List.drop_eq_nil_of_le (by omega)] at hu
    simp [ints] at hu
  · refine ⟨⟨b, off + (k + 1), none⟩, by rw [if_neg h], fun j u hu => ?_⟩
    rw [ints_map, List.map_drop, List.getElem?_drop, ← ints_map] at hu
    obtain ⟨b', off', e, h2⟩ := hm (fun e => by rw [e] at hu; simp at hu)
    cases e
    have := h2 _ _ hu
    rw [Addr.add_lit]
    rw [show off + (k + 1) + j = off + (k + 1 + j) by omega]
    exact this
theorem first_cell {w6 w7 w8 : World} {b o n c : Nat} {e : TypeId} {A7 : Option Addr} {xs : List Value} {u : Value} (h7 : w7.cell? ⟨b, o, none⟩ = some u) (hg : w7.grownBy w8 (Value.slice A7 n c).ownBlock) (ho : w7.ownsRow w6.drew.heap.size e 1 (.slice A7 n c) n xs) (h6 : w6.cell? ⟨b, o, none⟩ = some u) : w8.cell? ⟨b, o, none⟩ = some u :=
  hg.cell h7 (fun e => by
    have h1 := (ho.lt b e.symm).1
    have h2 : b < w6.heap.size := World.block_lt_of_cell? w6 _ h6
    have h3 : w6.drew.heap.size = w6.heap.size := rfl
    omega)
theorem own_farB {w w' : World} {base B : Nat} {e : TypeId} {size : Nat} {v : Value} {n : Nat} {xs : List Value} (h : w.ownsRow base e size v n xs) (hb : Below B w w') (hv : ∀ j, v.ownBlock = some j → j < B) : w'.ownsRow base e size v n xs := by
  refine ⟨h.1, ?_⟩
  rcases h.2 with h2 | ⟨k, cap, cur, h2, h3, h4, h5⟩
  · exact .inl h2
  · exact .inr ⟨k, cap, cur, h2, h3, (hb.block k (hv k (by rw [h2]; rfl))).trans h4, h5⟩
def ownJ (w w' : World) (A' : Option Addr) (c' : Nat) (O : List Int) : Prop := O.length ≤ 15 ∧ w'.ownsRow w.heap.size 3 1 (.slice A' O.length c') O.length (ints O) ∧ (∀ x ∈ O, -1 ≤ x ∧ x ≤ 13)
theorem Far.oth {w w' : World} {g : Nat} {v : Value} {A : Option Addr} {xs : List Value} (h : Far w v A xs) (ho : Oth g w w') (hg : ∀ b o, A = some ⟨b, o, none⟩ → b ≠ g) : Far w' v A xs :=
  ⟨mem_oth h.mem (fun b o e => ho.block b (h.lt b o e) (hg b o e)), fun b o e => Nat.lt_of_lt_of_le (h.lt b o e) ho.size, h.ne⟩
/-- Movers are drawn too. -/
def DrC (w : World) (e : Ending) (w' : World) : Prop :=
  ∃ A' c' L B' d' O C' f' M D' h' V, e = .returned (.tuple #[.slice A' L.length c', .slice B' O.length d', .slice C' M.length f', .slice D' V.length h']) ∧ ownH w w' A' c' L ∧ ownI w w' B' d' O ∧ ownI w w' C' f' M ∧ ownJ w w' D' h' V ∧ Below w.heap.size w w'
set_option maxRecDepth 100000 in
set_option maxHeartbeats 6400000 in
theorem drawIsCoverOf_any (A : Option Addr) (c : Nat) (C : List Int) (w : World) (h : code w A C) : Calls Try.prog 36 #[.slice A C.length c] w (DrC w) := by
  obtain ⟨i0, hi, hz0, hz1, hz2⟩ := info_parts info_int
  have HC := Lib.hid (code.cur (c := c) h)
  have HB := Lib.hid ((Below.refl w.heap.size w).alloc (Nat.le_refl _) (.cells #[.slice A C.length c, .int .i64 0, .int .u64 0] 67))
  clear h
  go_enter Try.func36, Try.ntmps36
  go_wp2_with fail
  have hlt0 : w.heap.size < (w.alloc (.cells #[.slice A C.length c, .int .i64 0, .int .u64 0] 67)).heap.size := by simp
  generalize w.alloc (.cells #[.slice A C.length c, .int .i64 0, .int .u64 0] 67) = W0 at *
  obtain ⟨g, hg⟩ : ∃ g, w.heap.size = g := ⟨_, rfl⟩
  have HG := Lib.hid hg
  rw [hg] at HC HB hlt0 ⊢
  clear hg
  refine (absence_any g 0 _ HC.out (by omega)).mono ?_
  rintro e w1 ⟨A', c', L, B', d', O, C', f', M, rfl, h1, h2, h3, hc1, ho1⟩
  have H1 := Lib.hid h1
  have H2 := Lib.hid h2
  have H3 := Lib.hid h3
  have O1 := Lib.hid ho1
  have hL13 := h1.1
  have hO14 := h2.1
  have hM14 := h3.1
  have hLc := own_cap h1.2.1
  have z1 : W0.heap.size ≤ w1.heap.size := ho1.size
  clear h1 h2 h3 ho1
  go_wp2_with fail
  refine (abAsked_any _ _ L _ _ O _ _ M _ (Mem.of_own H1.out.2.1) (Mem.of_own H2.out.2.1) (Mem.of_own H3.out.2.1) (by omega) (by omega) (by omega) hLc).mono ?_
  rintro e w2 ⟨rfl, hq2⟩
  have C2 := Lib.hid (hc1.below hq2 hc1.lt)
  have H1 := Lib.hid (H1.out.below hq2)
  have H2 := Lib.hid (H2.out.below hq2)
  have H3 := Lib.hid (H3.out.below hq2)
  have O2 := Lib.hid (O1.out.trans (Oth.of_below (g := g) hq2))
  have z2 : W0.heap.size ≤ w2.heap.size := O2.out.size
  clear hq2 hc1
  cases hok : abOk L O M
  · go_wp2_with fail
    refine bodyPost_ret (v := .tuple #[.slice A' L.length c', .slice B' O.length d', .slice C' M.length f', .slice none 0 0]) (by simp [results, Try.results36, go_sem]) rfl ?_
    exact ⟨A', c', L, B', d', O, C', f', M, none, 0, [], rfl, H1.out.base (by rw [HG.out]; omega), H2.out.base (by rw [HG.out]; omega), H3.out.base (by rw [HG.out]; omega), ⟨by simp, World.ownsRow_nil _ _ _ _, fun x hx => by cases hx⟩, by rw [HG.out]; exact HB.out.trans (O2.out.below (B := g) (Nat.le_refl _) (by omega))⟩
  have hln := (ab_lens hok).1
  clear hok
  go_wp2_with fail
  refine (abSpare_any _ _ L _ _ O _ _ M _ (Mem.of_own H2.out.2.1) (Mem.of_own H3.out.2.1) (by omega) (by omega) (by omega)).mono ?_
  rintro e w3 ⟨A3, c3, rfl, hs3, hq3⟩
  have C3 := Lib.hid (C2.out.below hq3 C2.out.lt)
  have H1 := Lib.hid (H1.out.below hq3)
  have H2 := Lib.hid (H2.out.below hq3)
  have H3 := Lib.hid (H3.out.below hq3)
  have S3 := Lib.hid hs3
  have O3 := Lib.hid (O2.out.trans (Oth.of_below (g := g) hq3))
  have hgw2 := C2.out.lt
  have z3 : W0.heap.size ≤ w3.heap.size := O3.out.size
  have hsl := spares_len L.length O M
  have HSB := Lib.hid (show ∀ x ∈ spares L.length O M, 0 ≤ x ∧ x ≤ 12 from fun x hx => by have := spares_mem hx; omega)
  have hz23 := hq3.size
  clear hq3 hs3 C2
  go_wp2_with fail
  refine (abOpen_any _ _ O _ _ M _ (Mem.of_own H2.out.2.1) (Mem.of_own H3.out.2.1) (by omega) (by omega)).mono ?_
  rintro e w4 ⟨A4, c4, rfl, _, hq4⟩
  have C4 := Lib.hid (C3.out.below hq4 C3.out.lt)
  have H1 := Lib.hid (H1.out.below hq4)
  have H2 := Lib.hid (H2.out.below hq4)
  have H3 := Lib.hid (H3.out.below hq4)
  have S4 := Lib.hid (own_below S3.out hq4)
  have O4 := Lib.hid (O3.out.trans (Oth.of_below (g := g) hq4))
  have hgw4 := C4.out.lt
  have z4 : W0.heap.size ≤ w4.heap.size := O4.out.size
  have hol := opens_len O M
  have hz34 := hq4.size
  clear hq4 S3 C3
  obtain ⟨q, hq⟩ : ∃ q, (opens O M).length = q := ⟨_, rfl⟩
  rw [hq] at hol ⊢
  clear hq
  generalize spares L.length O M = S0 at *
  have HR1 := Lib.hid (fun j (hj : (Value.slice A' L.length c').ownBlock = some j) => (H1.out.2.1.lt j hj).2)
  have HR2 := Lib.hid (fun j (hj : (Value.slice B' O.length d').ownBlock = some j) => (H2.out.2.1.lt j hj).2)
  have HR3 := Lib.hid (fun j (hj : (Value.slice C' M.length f').ownBlock = some j) => (H3.out.2.1.lt j hj).2)
  go_wp2
  go_loopw [10, 11, 12, 38] (fun sv mv _ iv wr => ∃ (j : Nat) (V S : List Int) (As : Option Addr) (cs : Nat), j ≤ q ∧ iv = .int .i64 j ∧ sv = .slice As S.length cs ∧ S.length ≤ 13 ∧ S.length ≤ cs ∧ (∀ x ∈ S, 0 ≤ x ∧ x ≤ 12) ∧ Far wr mv As (ints S) ∧ (∀ b o, As = some ⟨b, o, none⟩ → b ≠ g) ∧ wr.ownsRow w4.heap.size 3 1 mv V.length (ints V) ∧ V.length ≤ j ∧ (∀ x ∈ V, 0 ≤ x ∧ x ≤ 12) ∧ Cur wr g (9200 + j * 2) ∧ Oth g w4 wr) (fun _ _ _ iv _ => q - (intOf iv).toNat)
  case atStart => exact ⟨0, [], S0, A3, c3, by omega, rfl, rfl, by omega, own_cap S4.out, HSB.out, Far.of_own S4.out (fun j hj => by simp [Value.ownBlock] at hj), (fun b o e => by subst e; have := S4.out.lt b rfl; omega), World.ownsRow_nil _ _ _ _, by simp, (fun x hx => by cases hx), C4.out.mono (by omega), Oth.refl _ _⟩
  case round =>
    obtain ⟨j, V, S, As, cs, hj, rfl, rfl, hS13, hScs, hSb, hfar, hAg, hown, hVj, hVb, hcur, hoth⟩ := hrel
    have HF := Lib.hid hfar
    have HAG := Lib.hid hAg
    have HSB2 := Lib.hid hSb
    have HV := Lib.hid hown
    have HVB := Lib.hid hVb
    have HOt := Lib.hid hoth
    have hzw := hoth.size
    clear hfar hAg hSb hown hVb hoth
    by_cases hjq : j < q
    · by_cases hS0 : S.length = 0
      · have hS0' : ¬ (0 : Int) < ((S.length : Nat) : Int) := by omega
        have HCU := Lib.hid hcur
        clear hcur
        have HS00 := Lib.hid hS0
        clear hS0
        go_wp2
        go_roundw
        case rel => exact ⟨j + 1, V, S, As, cs, by omega, by go_num, rfl, hS13, hScs, HSB2.out, HF.out, HAG.out, HV.out, by omega, HVB.out, HCU.out.mono (by omega), HOt.out⟩
        case measure => simp [intOf]; omega
      · have hS0' : (0 : Int) < ((S.length : Nat) : Int) := by omega
        go_wp2_with fail
        refine (pick_any g (9200 + j * 2) _ _ ((S.length : Int) - 1) hcur (by omega) (by omega) (by omega) (by omega)).mono ?_
        rintro e w5 ⟨k, rfl, k0, k1, hc5, ho5⟩
        obtain ⟨k, rfl⟩ := Int.eq_ofNat_of_zero_le k0
        have hk : k < S.length := by omega
        have F5 := Lib.hid (HF.out.oth ho5 HAG.out)
        have V5 := Lib.hid (ho5.own HV.out hgw4)
        have O5 := Lib.hid (HOt.out.trans ho5)
        have C5 := Lib.hid hc5
        have z5 : w4.heap.size ≤ w5.heap.size := O5.out.size
        clear ho5 hc5 hcur
        obtain ⟨x, hx⟩ := some_of_lt hk
        have hxb := HSB2.out x (List.mem_of_getElem? hx)
        obtain ⟨b, off, rfl, e1⟩ := F5.out.mem.int hx
        have hbg := HAG.out b off rfl
        have HXX := Lib.hid hx
        clear hx
        have hgw5 := C5.out.lt
        have hV5k : V.length ≤ 14 := by omega
        go_wp2_with (at_builtin; refine wpList_append_far _ rfl (.tmp 47) (.tmp 52) 23 rfl w4.heap.size 3 i0 (.int .i64 0) 1 8 Try.underlying23 hi hz0 hz1 hz2 rfl (by omega) _ _ _ rfl V5.out _ _ _ rfl rfl rfl (by omega) (by omega) (by omega) ?_; intro v6 w6 hown6 hb6 hfar6; have F6 := Lib.hid (hfar6 _ _ F5.out); have V6 := Lib.hid (show w6.ownsRow w4.heap.size 3 1 v6 (V.length + 1) (ints (V ++ [x])) from (by rw [ints_snoc]; exact hown6)); have C6 := Lib.hid (C5.out.below hb6 hgw4); have O6 := Lib.hid (Oth.of_base hb6 (by omega) O5.out); have z6 : w4.heap.size ≤ w6.heap.size := O6.out.size; clear hown6 hb6 hfar6 e1)
        have hk0 : (0 : Int) ≤ (k : Int) := by omega
        have hkc : (k : Int) ≤ (cs : Int) := by omega
        have hk1 : (k : Int) + 1 ≤ (S.length : Int) := by omega
        have hk2 : (0 : Int) ≤ (k : Int) + 1 := by omega
        have hsc : (S.length : Int) ≤ (cs : Int) := by omega
        have hkw : IntKind.i64.wrap ((k : Int) + 1) = (k : Int) + 1 := IntWalk.i64_in _ (by omega)
        have hkn : ((k : Int) + 1).toNat = k + 1 := by omega
        have hkl : k + 1 ≤ S.length := by omega
        have hkcs : k + 1 ≤ cs := by omega
        have hLO := Lib.hid (l1OwnT_any b off cs k S w6.drew F6.out.mem (by omega) (by omega))
        have HLEN := Lib.hid (show (ints (S.drop (k + 1))).length = (S.length - (k + 1)) * 1 by rw [ints_len, List.length_drop]; omega)
        have HMX := Lib.hid (show k + (S.length - (k + 1)) ≤ maxLen by unfold maxLen; omega)
        have HBY := Lib.hid (show (k + (S.length - (k + 1))) * 8 ≤ 140737488355328 by omega)
        obtain ⟨ad, had, hcl⟩ := rest_at (cs := cs) F6.out.mem hk hScs
        by_cases hcs : cs = k + 1
        · subst hcs
          rw [if_pos rfl] at had
          have hxk1 : (k : Int) ≤ (k : Int) + 1 := by omega
          have hxk2 : k ≤ k + 1 := by omega
          have HLEN0 := Lib.hid (show (ints (S.drop (k + 1))).length = 0 * 1 by rw [ints_len, List.length_drop]; omega)
          have HMX0 := Lib.hid (show k + 0 ≤ maxLen by unfold maxLen; omega)
          have HBY0 := Lib.hid (show (k + 0) * 8 ≤ 140737488355328 by omega)
          cases had
          have HCL := Lib.hid (show ∀ j u, (ints (S.drop (k + 1)))[j]? = some u → w6.drew.cell? (Addr.add ⟨b, off, none⟩ j) = some u from hcl)
          clear hcl
          obtain ⟨_, _, eb, hs6⟩ := F6.out.mem.int HXX.out
          cases eb
          have HS6 := Lib.hid hs6
          have HSd := Lib.hid (show w6.drew.cell? ⟨b, off + k, none⟩ = some (.int .i64 x) from hs6)
          have HF7 := Lib.hid (fun (w7 : World) (hq : Below w6.drew.heap.size w6.drew w7) => show w7.cell? ⟨b, off + k, none⟩ = some (.int .i64 x) from keep1 hq HSd.out)
          clear hs6
          go_region_held3 (fun wx => wx.cell? ⟨b, off + k, none⟩ = some (.int .i64 x)) (first | with_reducible exact HS6.out | with_reducible exact HSd.out | with_reducible exact hS7 | with_reducible exact hS8 | fail)
            (first
              | (refine step_append_many _ rfl (.tmp 57) (.tmp 61) 23 rfl w6.drew.heap.size 3 i0 (.int .i64 0) 1 8 Try.underlying23 hi hz0 hz1 hz2 rfl Nat.one_pos (.slice A7 k c7) k (ints (S.take k)) ?_ HO7.out ⟨b, off, none⟩ 0 0 (ints (S.drop (k + 1))) ?_ HLEN0.out (fun j u hu => keep1 HQ7.out (HCL.out j u hu)) (ints_one _) HMX0.out HBY0.out HQ7.out.size ?_; (focus (first | rfl | (simp [go_sem]; done) | fail)); (focus (first | rfl | (simp [go_sem]; done) | fail)); intro v8 w8 ho8 hg8 hat8; have hS8 : w8.cell? ⟨b, off + k, none⟩ = some (.int .i64 x) := (first_cell hS7 hg8 HO7.out HS6.out))
              | (go_at_call 67; (first | (with_reducible refine hLO.out.mono ?_) | fail); rintro e w7 ⟨A7, c7, rfl, ho7, hq7⟩; have hS7 := HF7.out w7 hq7; have HO7 := Lib.hid ho7; have HQ7 := Lib.hid hq7; clear ho7 hq7))
          have hn : (S.take k ++ S.drop (k + 1)).length = k + 0 := by rw [List.length_append, List.length_take, List.length_drop]; omega
          have hII : ints (S.take k ++ S.drop (k + 1)) = ints (S.take k) ++ ints (S.drop (k + 1)) := by rw [ints_map, ints_map, ints_map, List.map_append]
          have H68 : Below w6.heap.size w6 w8 := ((Below.refl w6.heap.size w6).drew.trans HQ7.out).grown hg8 HQ7.out.size (fun j hj => (HO7.out.lt j hj).1)
          rw [← hII, ← hn] at ho8
          have h8m : w6.heap.size ≤ w8.heap.size := H68.size
          obtain ⟨A8, c8, rfl⟩ := own_form ho8
          have HO8 := Lib.hid ho8
          have V8 := Lib.hid (own_below V6.out H68)
          have C8 := Lib.hid (C6.out.below H68 C6.out.lt)
          have O8 := Lib.hid (Oth.of_base (a := w4) (H68.mono z6) z6 O6.out)
          have hgw6 := C6.out.lt
          have HN := Lib.hid hn
          have hS1 : (S.take k ++ S.drop (k + 1)).length ≤ 13 := by omega
          have hSc := own_cap ho8
          have HRV := Lib.hid (fun j (hj : v6.ownBlock = some j) => (V6.out.lt j hj).2)
          clear ho8 hg8 hat8 hII hn hS8 H68
          go_wp2
          go_roundw
          case rel =>
            refine ⟨j + 1, V ++ [x], S.take k ++ S.drop (k + 1), A8, c8, by omega, by go_num, rfl, hS1, hSc, ?_, ?_, ?_, ?_, ?_, ?_, C8.out.mono (by omega), O8.out⟩
            · intro y hy
              rcases List.mem_append.1 hy with hy | hy
              · exact HSB2.out y (List.mem_of_mem_take hy)
              · exact HSB2.out y (List.mem_of_mem_drop hy)
            · exact Far.of_own HO8.out (fun j hj => HRV.out j hj)
            · intro b' o' e'
              subst e'
              have h9 := (HO8.out.lt b' rfl).1
              have h10 : w6.drew.heap.size = w6.heap.size := rfl
              omega
            · rw [List.length_append]; exact V8.out
            · rw [List.length_append]; simp; omega
            · intro y hy
              rcases List.mem_append.1 hy with hy | hy
              · exact HVB.out y hy
              · simp at hy; subst hy; exact hxb
          case measure => simp [intOf]; omega
        · rw [if_neg hcs] at had
          cases had
          have HCL := Lib.hid (show ∀ j u, (ints (S.drop (k + 1)))[j]? = some u → w6.drew.cell? (Addr.add ⟨b, off + (k + 1), none⟩ j) = some u from hcl)
          clear hcl
          obtain ⟨_, _, eb, hs6⟩ := F6.out.mem.int HXX.out
          cases eb
          have HS6 := Lib.hid hs6
          have HSd := Lib.hid (show w6.drew.cell? ⟨b, off + k, none⟩ = some (.int .i64 x) from hs6)
          have HF7 := Lib.hid (fun (w7 : World) (hq : Below w6.drew.heap.size w6.drew w7) => show w7.cell? ⟨b, off + k, none⟩ = some (.int .i64 x) from keep1 hq HSd.out)
          clear hs6
          go_region_held3 (fun wx => wx.cell? ⟨b, off + k, none⟩ = some (.int .i64 x)) (first | with_reducible exact HS6.out | with_reducible exact HSd.out | with_reducible exact hS7 | with_reducible exact hS8 | fail)
            (first
              | (refine step_append_many _ rfl (.tmp 57) (.tmp 61) 23 rfl w6.drew.heap.size 3 i0 (.int .i64 0) 1 8 Try.underlying23 hi hz0 hz1 hz2 rfl Nat.one_pos (.slice A7 k c7) k (ints (S.take k)) ?_ HO7.out ⟨b, off + (k + 1), none⟩ (S.length - (k + 1)) (cs - (k + 1)) (ints (S.drop (k + 1))) ?_ HLEN.out (fun j u hu => keep1 HQ7.out (HCL.out j u hu)) (ints_one _) HMX.out HBY.out HQ7.out.size ?_; (focus (first | rfl | (simp [go_sem]; done) | fail)); (focus (first | rfl | (simp [go_sem]; done) | fail)); intro v8 w8 ho8 hg8 hat8; have hS8 : w8.cell? ⟨b, off + k, none⟩ = some (.int .i64 x) := (first_cell hS7 hg8 HO7.out HS6.out))
              | (go_at_call 67; (first | (with_reducible refine hLO.out.mono ?_) | fail); rintro e w7 ⟨A7, c7, rfl, ho7, hq7⟩; have hS7 := HF7.out w7 hq7; have HO7 := Lib.hid ho7; have HQ7 := Lib.hid hq7; clear ho7 hq7))
          have hn : (S.take k ++ S.drop (k + 1)).length = k + (S.length - (k + 1)) := by rw [List.length_append, List.length_take, List.length_drop]; omega
          have hII : ints (S.take k ++ S.drop (k + 1)) = ints (S.take k) ++ ints (S.drop (k + 1)) := by rw [ints_map, ints_map, ints_map, List.map_append]
          have H68 : Below w6.heap.size w6 w8 := ((Below.refl w6.heap.size w6).drew.trans HQ7.out).grown hg8 HQ7.out.size (fun j hj => (HO7.out.lt j hj).1)
          rw [← hII, ← hn] at ho8
          have h8m : w6.heap.size ≤ w8.heap.size := H68.size
          obtain ⟨A8, c8, rfl⟩ := own_form ho8
          have HO8 := Lib.hid ho8
          have V8 := Lib.hid (own_below V6.out H68)
          have C8 := Lib.hid (C6.out.below H68 C6.out.lt)
          have O8 := Lib.hid (Oth.of_base (a := w4) (H68.mono z6) z6 O6.out)
          have hgw6 := C6.out.lt
          have HN := Lib.hid hn
          have hS1 : (S.take k ++ S.drop (k + 1)).length ≤ 13 := by omega
          have hSc := own_cap ho8
          have HRV := Lib.hid (fun j (hj : v6.ownBlock = some j) => (V6.out.lt j hj).2)
          clear ho8 hg8 hat8 hII hn hS8 H68
          go_wp2
          go_roundw
          case rel =>
            refine ⟨j + 1, V ++ [x], S.take k ++ S.drop (k + 1), A8, c8, by omega, by go_num, rfl, hS1, hSc, ?_, ?_, ?_, ?_, ?_, ?_, C8.out.mono (by omega), O8.out⟩
            · intro y hy
              rcases List.mem_append.1 hy with hy | hy
              · exact HSB2.out y (List.mem_of_mem_take hy)
              · exact HSB2.out y (List.mem_of_mem_drop hy)
            · exact Far.of_own HO8.out (fun j hj => HRV.out j hj)
            · intro b' o' e'
              subst e'
              have h9 := (HO8.out.lt b' rfl).1
              have h10 : w6.drew.heap.size = w6.heap.size := rfl
              omega
            · rw [List.length_append]; exact V8.out
            · rw [List.length_append]; simp; omega
            · intro y hy
              rcases List.mem_append.1 hy with hy | hy
              · exact HVB.out y hy
              · simp at hy; subst hy; exact hxb
          case measure => simp [intOf]; omega
    · obtain rfl : j = q := by omega
      go_wp2_with fail
      refine (pick_any g (9200 + j * 2) _ _ 11 hcur (by omega) (by omega) (by omega) (by omega)).mono ?_
      rintro e w5 ⟨n, rfl, n0, n1, hc5, ho5⟩
      have V5 := Lib.hid (ho5.own HV.out hgw4)
      have O5 := Lib.hid (HOt.out.trans ho5)
      have C5 := Lib.hid hc5
      have H1 := Lib.hid (H1.out.oth O5.out hlt0)
      have H2 := Lib.hid (H2.out.oth O5.out hlt0)
      have H3 := Lib.hid (H3.out.oth O5.out hlt0)
      have z5 : w4.heap.size ≤ w5.heap.size := O5.out.size
      have OT := Lib.hid (O4.out.trans O5.out)
      have hgw5 := C5.out.lt
      clear ho5 hc5 hcur HF
      obtain ⟨Av, cv, rfl⟩ := own_form V5.out
      by_cases h0 : n = 0
      · subst h0
        go_wp2_with fail
        refine (pick_any g (9200 + j * 2 + 2) _ _ ((L.length : Int) - 1) C5.out (by omega) (by omega) (by omega) (by omega)).mono ?_
        rintro e w6 ⟨y, rfl, y0, y1, hc6, ho6⟩
        have V6 := Lib.hid (ho6.own V5.out hgw4)
        have O6 := Lib.hid (O5.out.trans ho6)
        have H1 := Lib.hid (H1.out.oth ho6 hlt0)
        have H2 := Lib.hid (H2.out.oth ho6 hlt0)
        have H3 := Lib.hid (H3.out.oth ho6 hlt0)
        have OT := Lib.hid (OT.out.trans ho6)
        have z6 : w4.heap.size ≤ w6.heap.size := O6.out.size
        clear ho6 hc6
        go_wp2_with (at_builtin; refine wpList_append_one _ rfl (.tmp 68) (.tmp 73) 23 rfl w4.heap.size 3 i0 (.int .i64 0) 1 8 Try.underlying23 hi hz0 hz1 hz2 rfl (by omega) _ _ _ rfl V6.out _ _ _ rfl rfl rfl (by omega) (by omega) (by omega) ?_; intro v7 w7 hown7 hb7; obtain ⟨A7, c7, rfl⟩ := own_form hown7; have J7 := Lib.hid (show w7.ownsRow w4.heap.size 3 1 (.slice A7 (V.length + 1) c7) (V.length + 1) (ints (V ++ [y])) from (by rw [ints_snoc]; exact hown7)); have HB7 := Lib.hid hb7; clear hown7 hb7)
        have H1 := Lib.hid (show ownH W0 w7 A' c' L from ⟨H1.out.1, own_farB H1.out.2.1 HB7.out HR1.out, H1.out.2.2⟩)
        have H2 := Lib.hid (show ownI W0 w7 B' d' O from ⟨H2.out.1, own_farB H2.out.2.1 HB7.out HR2.out, H2.out.2.2⟩)
        have H3 := Lib.hid (show ownI W0 w7 C' f' M from ⟨H3.out.1, own_farB H3.out.2.1 HB7.out HR3.out, H3.out.2.2⟩)
        refine bodyPost_ret (v := .tuple #[.slice A' L.length c', .slice B' O.length d', .slice C' M.length f', .slice A7 (V.length + 1) c7]) (by simp [results, Try.results36, go_sem]) rfl ?_
        exact ⟨A', c', L, B', d', O, C', f', M, A7, c7, V ++ [y], by first | rfl | simp, H1.out.base (by rw [HG.out]; omega), H2.out.base (by rw [HG.out]; omega), H3.out.base (by rw [HG.out]; omega), ⟨by rw [List.length_append]; simp; omega, by rw [List.length_append]; exact own_base J7.out (by rw [HG.out]; omega), fun x hx => by
          rcases List.mem_append.1 hx with hx | hx
          · have := HVB.out x hx; omega
          · simp at hx; subst hx; omega⟩, by rw [HG.out]; exact HB.out.trans ((OT.out.below (B := g) (Nat.le_refl _) (by omega)).trans (HB7.out.mono (by omega)))⟩
      by_cases h1 : n = 1
      · subst h1
        by_cases hV0 : V.length = 0
        · have hV0' : ¬ (0 : Int) < ((V.length : Nat) : Int) := by omega
          clear hV0
          go_wp2_with fail
          refine bodyPost_ret (v := .tuple #[.slice A' L.length c', .slice B' O.length d', .slice C' M.length f', .slice Av V.length cv]) (by simp [results, Try.results36, go_sem]) rfl ?_
          exact ⟨A', c', L, B', d', O, C', f', M, Av, cv, V, by first | rfl | simp, H1.out.base (by rw [HG.out]; omega), H2.out.base (by rw [HG.out]; omega), H3.out.base (by rw [HG.out]; omega), ⟨by omega, own_base V5.out (by rw [HG.out]; omega), fun x hx => by have := HVB.out x hx; omega⟩, by rw [HG.out]; exact HB.out.trans (OT.out.below (B := g) (Nat.le_refl _) (by omega))⟩
        · have hV0' : (0 : Int) < ((V.length : Nat) : Int) := by omega
          obtain ⟨gm, rfl, hgm1, hgm2⟩ := own_addr V5.out (by omega)
          obtain ⟨y0, hy0⟩ := some_of_lt (L := V) (k := V.length - 1) (by omega)
          have hyb := HVB.out y0 (List.mem_of_getElem? hy0)
          obtain ⟨_, _, eq, e9⟩ := (Mem.of_own V5.out).int hy0
          cases eq
          rw [Nat.zero_add] at e9
          have hc9 : ((V.length : Nat) : Int) - 1 = ((V.length - 1 : Nat) : Int) := by omega
          have hlt9 : V.length - 1 < V.length := by omega
          clear hy0
          go_wp2_with fail
          refine (among_any g (9200 + j * 2 + 2) _ _ _ _ [-1, 0, (L.length : Int) - 1, (L.length : Int), y0] (-1) 13 _ (C5.out.alloc _) (by omega) (Blk.new _ _ _) rfl rfl (by omega) (by simp) (by simp) (by simp; omega)).mono ?_
          rintro e w6 ⟨y, rfl, yy0, yy1, hc6, ho6⟩
          have hal : Below w5.heap.size w5 (w5.alloc (.cells #[.int .i64 (-1), .int .i64 0, .int .i64 ((L.length : Int) - 1), .int .i64 (L.length : Int), .int .i64 y0] 3)) := (Below.refl _ _).alloc (Nat.le_refl _) _
          have V6 := Lib.hid (ho6.own (own_below V5.out hal) hgw4)
          have H1 := Lib.hid ((H1.out.below hal).oth ho6 hlt0)
          have H2 := Lib.hid ((H2.out.below hal).oth ho6 hlt0)
          have H3 := Lib.hid ((H3.out.below hal).oth ho6 hlt0)
          have OT := Lib.hid ((OT.out.alloc _).trans ho6)
          clear ho6 hc6 hal e9
          have fz := V6.out.frozenAt 0
          obtain ⟨v0, hv0⟩ := some_of_lt (L := V) (k := 0) (by omega)
          obtain ⟨_, _, eq, e8⟩ := (Mem.of_own V6.out).int hv0
          cases eq
          rw [Nat.zero_add] at e8
          clear hv0
          go_wp2_with fail
          have hbS : Below w4.heap.size w6 (w6.setCell ⟨gm, 0, none⟩ (.int .i64 y)) := (Below.refl _ _).setCell hgm1 _
          have st := (V6.out.stored 0 (.int .i64 y)).1
          rw [← ints_set] at st
          have ST := Lib.hid st
          have H1 := Lib.hid (show ownH W0 (w6.setCell ⟨gm, 0, none⟩ (.int .i64 y)) A' c' L from ⟨H1.out.1, own_farB H1.out.2.1 hbS HR1.out, H1.out.2.2⟩)
          have H2 := Lib.hid (show ownI W0 (w6.setCell ⟨gm, 0, none⟩ (.int .i64 y)) B' d' O from ⟨H2.out.1, own_farB H2.out.2.1 hbS HR2.out, H2.out.2.2⟩)
          have H3 := Lib.hid (show ownI W0 (w6.setCell ⟨gm, 0, none⟩ (.int .i64 y)) C' f' M from ⟨H3.out.1, own_farB H3.out.2.1 hbS HR3.out, H3.out.2.2⟩)
          clear st fz e8
          generalize (w6.setCell ⟨gm, 0, none⟩ (.int .i64 y)) = w8 at *
          refine bodyPost_ret (v := .tuple #[.slice A' L.length c', .slice B' O.length d', .slice C' M.length f', .slice (some ⟨gm, 0, none⟩) V.length cv]) (by simp [results, Try.results36, go_sem]) rfl ?_
          exact ⟨A', c', L, B', d', O, C', f', M, (some ⟨gm, 0, none⟩), cv, V.set 0 y, by first | rfl | simp, H1.out.base (by rw [HG.out]; omega), H2.out.base (by rw [HG.out]; omega), H3.out.base (by rw [HG.out]; omega), ⟨by rw [List.length_set]; omega, by rw [List.length_set]; exact own_base ST.out (by rw [HG.out]; omega), fun x hx => by
            rcases List.mem_or_eq_of_mem_set hx with hx | hx
            · have := HVB.out x hx; omega
            · subst hx; omega⟩, by rw [HG.out]; exact HB.out.trans ((OT.out.below (B := g) (Nat.le_refl _) (by omega)).trans (hbS.mono (by omega)))⟩
      have e0 : ((n : Int) == 0) = false := beq_eq_false_iff_ne.2 h0
      have e1 : ((n : Int) == 1) = false := beq_eq_false_iff_ne.2 h1
      go_wp2_with fail
      refine bodyPost_ret (v := .tuple #[.slice A' L.length c', .slice B' O.length d', .slice C' M.length f', .slice Av V.length cv]) (by simp [results, Try.results36, go_sem]) rfl ?_
      exact ⟨A', c', L, B', d', O, C', f', M, Av, cv, V, by first | rfl | simp, H1.out.base (by rw [HG.out]; omega), H2.out.base (by rw [HG.out]; omega), H3.out.base (by rw [HG.out]; omega), ⟨by omega, own_base V5.out (by rw [HG.out]; omega), fun x hx => by have := HVB.out x hx; omega⟩, by rw [HG.out]; exact HB.out.trans (OT.out.below (B := g) (Nat.le_refl _) (by omega))⟩
set_option maxRecDepth 100000 in
theorem drawCoverSum_any (A : Option Addr) (c : Nat) (C : List Int) (w : World) (h : code w A C) : Calls Try.prog 20 #[.slice A C.length c] w (DrC w) := by
  go_enter Try.func20, Try.ntmps20
  go_wp2_with fail
  refine (drawIsCoverOf_any _ _ _ _ h).mono ?_
  rintro e w1 ⟨A', c', L, B', d', O, C', f', M, D', h', V, rfl, h1, h2, h3, h4, hb⟩
  have H1 := Lib.hid h1
  have H2 := Lib.hid h2
  have H3 := Lib.hid h3
  have H4 := Lib.hid h4
  have HB := Lib.hid hb
  clear h1 h2 h3 h4 hb
  go_wp2_with fail
  refine bodyPost_ret (v := .tuple #[.slice A' L.length c', .slice B' O.length d', .slice C' M.length f', .slice D' V.length h']) (by simp [results, Try.results20, go_sem]) rfl ?_
  exact ⟨A', c', L, B', d', O, C', f', M, D', h', V, rfl, H1.out, H2.out, H3.out, H4.out, HB.out⟩
set_option maxRecDepth 100000 in
theorem drawCoveredSpots_any (A : Option Addr) (c : Nat) (C : List Int) (w : World) (h : code w A C) : Calls Try.prog 23 #[.slice A C.length c] w (DrC w) := by
  go_enter Try.func23, Try.ntmps23
  go_wp2_with fail
  refine (drawIsCoverOf_any _ _ _ _ h).mono ?_
  rintro e w1 ⟨A', c', L, B', d', O, C', f', M, D', h', V, rfl, h1, h2, h3, h4, hb⟩
  have H1 := Lib.hid h1
  have H2 := Lib.hid h2
  have H3 := Lib.hid h3
  have H4 := Lib.hid h4
  have HB := Lib.hid hb
  clear h1 h2 h3 h4 hb
  go_wp2_with fail
  refine bodyPost_ret (v := .tuple #[.slice A' L.length c', .slice B' O.length d', .slice C' M.length f', .slice D' V.length h']) (by simp [results, Try.results23, go_sem]) rfl ?_
  exact ⟨A', c', L, B', d', O, C', f', M, D', h', V, rfl, H1.out, H2.out, H3.out, H4.out, HB.out⟩
end Go.Proofs.Ythppancpecjegaa
