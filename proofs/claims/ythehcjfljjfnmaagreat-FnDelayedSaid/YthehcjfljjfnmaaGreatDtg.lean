/-
  Draws: the least transition of two forms.
-/
import Derived.Test.YthehcjfljjfnmaaGreatDtf
import Derived.Test.YthehcjfljjfnmaaGreatMal
import Derived.Test.YthehcjfljjfnmaaGreatBase
import Derived.Lib.QuietBelow
namespace Go.Proofs.YthehcjfljjfnmaaGreat
open Go.RowKit
open Go.Sort (grow)

theorem info_intss : (Tryz.prog.info? 32).map (fun i => (i.zero, i.size, i.bytes)) = some (some (.slice none 0 0), 1, 24) := by kernel_rfl
/-- Rows of costs that the call has made: the headers hs in a row of its own (value v), each row in a block that is not v's. -/
def CstO (w : World) (base : Nat) (v : Value) (r n : Nat) (hs : List (Option Addr × Nat)) (c : Nat → Nat → Int) : Prop :=
  hs.length = r ∧ w.ownsRow base 32 1 v r (hs.flatMap fun h => [Value.slice h.1 n h.2]) ∧ ∀ (j : Nat) (h : Option Addr × Nat), hs[j]? = some h → Far w v h.1 (ints ((List.range n).map (c j)))
theorem CstO.below {w w' : World} {base : Nat} {v : Value} {r n : Nat} {hs : List (Option Addr × Nat)} {c : Nat → Nat → Int} (h : CstO w base v r n hs c) (hb : Below w.heap.size w w') : CstO w' base v r n hs c :=
  ⟨h.1, own_below h.2.1 hb, fun j x hx => (h.2.2 j x hx).below hb⟩
theorem CstO.cst {w : World} {base : Nat} {A : Option Addr} {c' : Nat} {n : Nat} {hs : List (Option Addr × Nat)} {c : Nat → Nat → Int} (h : CstO w base (.slice A n c') n n hs c) : Cst w A n hs c :=
  ⟨h.1, Mem.of_own h.2.1, fun j x hx => (h.2.2 j x hx).mem⟩
theorem range_snoc {α : Type} (f : Nat → α) (k : Nat) : (List.range (k + 1)).map f = (List.range k).map f ++ [f k] := by simp [List.range_succ]
def acF (F T : List Sp) (i k : Nat) : Int := sq (F.getD i ⟨0, 0⟩) (T.getD k ⟨0, 0⟩)
theorem acF_at {F T : List Sp} {i k : Nat} {s t : Sp} (h1 : F[i]? = some s) (h2 : T[k]? = some t) : acF F T i k = sq s t := by simp [acF, List.getD, h1, h2]
set_option maxHeartbeats 6400000 in
set_option maxRecDepth 100000 in
theorem asCosts_any (A : Option Addr) (c : Nat) (F : List Sp) (B : Option Addr) (d : Nat) (T : List Sp) (n : Nat) (w : World) (hf : Mem w A (spots F)) (ht : Mem w B (spots T)) (hF : F.length = n) (hT : T.length = n) (h12 : n ≤ 12) (gF : ∀ s ∈ F, isSp s = true) (gT : ∀ s ∈ T, isSp s = true) :
    Calls Tryz.prog 104 #[.slice A n c, .slice B n d] w fun e w' => ∃ A' c' hs, e = .returned (.slice A' n c') ∧ CstO w' w.heap.size (.slice A' n c') n n hs (acF F T) ∧ Below w.heap.size w w' := by
  obtain ⟨i0, hi, hz0, hz1, hz2⟩ := info_parts info_int
  obtain ⟨i1, gi, gz0, gz1, gz2⟩ := info_parts info_intss
  have HF := Lib.hid hf
  have HT := Lib.hid ht
  have HFL := Lib.hid hF
  have HTL := Lib.hid hT
  have GF := Lib.hid gF
  have GT := Lib.hid gT
  clear hf ht hF hT gF gT
  go_enter Tryz.func104, Tryz.ntmps104
  go_wp2_with fail
  go_loopw [5, 7, 8, 10, 13] (fun cv _ _ _ i wr => ∃ (r : Nat) (hs : List (Option Addr × Nat)), r ≤ n ∧ i = .int .i64 r ∧ CstO wr w.heap.size cv r n hs (acF F T) ∧ Below w.heap.size w wr) (fun _ _ _ _ i _ => n - (intOf i).toNat)
  case atStart => exact ⟨0, [], by omega, rfl, ⟨rfl, World.ownsRow_nil _ _ _ _, fun j h hh => by simp at hh⟩, Below.refl _ _⟩
  case round =>
    obtain ⟨r, hs, hr, rfl, hC, hb⟩ := hrel
    obtain ⟨W1, hW1⟩ : ∃ x, x = wr := ⟨wr, rfl⟩
    subst hW1
    have HC := Lib.hid hC
    have HBR := Lib.hid hb
    have zz2 := hb.size
    clear hC hb
    by_cases hrq : r < n
    · obtain ⟨s, hs0⟩ := some_of_lt (L := F) (k := r) (by have := HFL.out; omega)
      have hsg := GF.out s (List.mem_of_getElem? hs0)
      obtain ⟨ba, oa, rfl, e1, e2⟩ := (HF.out.below HBR.out).spot hs0
      have HS0 := Lib.hid hs0
      clear hs0
      go_wp2_with fail
      have hx0 : (W1.alloc (.cells #[.int .i64 s.x, .int .i64 s.y] 24)).cell? ⟨W1.heap.size, 0, none⟩ = some (.int .i64 s.x) := by simp [go_sem]
      have hx1 : (W1.alloc (.cells #[.int .i64 s.x, .int .i64 s.y] 24)).cell? ⟨W1.heap.size, 1, none⟩ = some (.int .i64 s.y) := by simp [go_sem]
      have HBW := Lib.hid (below_alloc W1 (.cells #[.int .i64 s.x, .int .i64 s.y] 24))
      have hzW : W1.heap.size < (W1.alloc (.cells #[.int .i64 s.x, .int .i64 s.y] 24)).heap.size := by simp
      obtain ⟨bx_, hbx⟩ : ∃ b, W1.heap.size = b := ⟨_, rfl⟩
      have hbW : Below bx_ W1 (W1.alloc (.cells #[.int .i64 s.x, .int .i64 s.y] 24)) := hbx ▸ HBW.out
      clear HBW
      have HBW := Lib.hid hbW
      clear hbW
      rw [hbx] at hx0 hx1 hzW ⊢
      generalize (W1.alloc (.cells #[.int .i64 s.x, .int .i64 s.y] 24)) = W2 at hx0 hx1 HBW hzW ⊢
      clear e1 e2
      go_loopw [8, 10, 19] (fun ov _ i wx => ∃ k : Nat, k ≤ n ∧ i = .int .i64 k ∧ wx.ownsRow W2.heap.size 3 1 ov k (ints ((List.range k).map (acF F T r))) ∧ Below W2.heap.size W2 wx) (fun _ _ i _ => n - (intOf i).toNat)
      case atStart => exact ⟨0, by omega, rfl, World.ownsRow_nil _ _ _ _, Below.refl _ _⟩
      case round =>
        obtain ⟨k, hk, rfl, hown, hb⟩ := hrel
        have HBX := Lib.hid hb
        have HBW2 := Lib.hid (HBW.out.trans (hb.mono (Nat.le_of_lt (by omega))))
        have y0 := keep1 hb hx0
        have y1 := keep1 hb hx1
        have zz3 := hb.size
        have gzb : bx_ < wr.heap.size := by omega
        have HO := Lib.hid hown
        by_cases hkq : k < n
        · obtain ⟨t, ht0⟩ := some_of_lt (L := T) (k := k) (by have := HTL.out; omega)
          have htg := GT.out t (List.mem_of_getElem? ht0)
          obtain ⟨bb, ob, rfl, e3, e4⟩ := (HT.out.below (HBR.out.trans (HBW2.out.mono (by omega)))).spot ht0
          have HSN := Lib.hid (range_snoc (acF F T r) k)
          have HPD := Lib.hid (acF_at HS0.out ht0)
          have CS := Lib.hid (fun w => stSquare_any s t hsg htg w)
          clear ht0 hown hb hsg htg
          go_wp2_with fail
          refine (CS.out _).mono ?_
          rintro e w6 ⟨rfl, o1, o2, rfl⟩
          have hq6 : Below wr.heap.size wr (((wr.alloc (.cells #[.int .i64 t.x, .int .i64 t.y] 24)).alloc o1).alloc o2) := by (repeat (first | exact Below.refl _ _ | assumption | (refine Below.alloc ?_ (by first | omega | (simp; done) | (simp; omega)) _) | (refine Below.setCell ?_ (by first | omega | (simp; done) | (simp; omega)) _) | (refine Below.drew ?_) | (refine Below.drewN ?_ _) | (refine Below.next (by assumption) ?_ (by first | omega | (simp; done) | (simp; omega)))))
          have HO6 := Lib.hid (own_below HO.out hq6)
          have HB6 := Lib.hid (HBX.out.trans (hq6.mono zz3))
          have hz6 := hq6.size
          clear hq6 y0 y1 gzb
          generalize (((wr.alloc (.cells #[.int .i64 t.x, .int .i64 t.y] 24)).alloc o1).alloc o2) = w6 at HO6 HB6 hz6 ⊢
          go_wp2_with (at_builtin; refine wpList_append_one _ rfl (.tmp 23) (.tmp 27) 32 rfl W2.heap.size 3 i0 (.int .i64 0) 1 8 Tryz.underlying32 hi hz0 hz1 hz2 rfl (by omega) _ _ _ rfl HO6.out _ _ _ rfl rfl rfl (by omega) (by omega) (by omega) ?_; intro v' w7 hown' hb7)
          go_roundw
          case rel => exact ⟨k + 1, by omega, by go_num, by rw [HSN.out, ints_snoc, HPD.out]; exact hown', HB6.out.trans hb7⟩
          case measure => simp [intOf]; omega
        · obtain rfl : k = n := by omega
          have HC2 := Lib.hid (HC.out.below (hbx.symm ▸ HBW2.out))
          have hfar : ∀ j, u5.ownBlock = some j → j < W2.heap.size := fun j hj => by have := (HC.out.2.1.lt j hj).2; omega
          obtain ⟨A3, c3, rfl⟩ := own_form hown
          have HFR := Lib.hid (Far.of_own hown hfar)
          have HB2 := Lib.hid (HBR.out.trans (HBW2.out.mono (by omega)))
          clear hown hb hfar y0 y1
          go_wp2_with (at_builtin; refine wpList_append_far _ rfl (.tmp 30) (.tmp 32) 39 rfl w.heap.size 32 i1 (.slice none 0 0) 1 24 Tryz.underlying39 gi gz0 gz1 gz2 rfl (by omega) _ _ _ rfl HC2.out.2.1 _ _ _ rfl rfl rfl (by omega) (by omega) (by omega) ?_; intro v' w7 hown' hb7 hfar7)
          go_roundw
          case rel =>
            refine ⟨r + 1, hs ++ [(A3, c3)], by omega, by go_num, ⟨by rw [List.length_append, HC.out.1]; rfl, by rw [List.flatMap_append]; exact hown', fun j h hj => ?_⟩, HB2.out.trans hb7⟩
            by_cases hjr : j < r
            · rw [List.getElem?_append_left (by rw [HC.out.1]; omega)] at hj
              exact hfar7 _ _ (HC2.out.2.2 j h hj)
            · rw [List.getElem?_append_right (by rw [HC.out.1]; omega), HC.out.1] at hj
              have hj0 : j = r := by
                rcases Nat.lt_or_ge (j - r) 1 with h' | h'
                · omega
                · rw [List.getElem?_eq_none (by simpa using h')] at hj; cases hj
              subst hj0
              simp at hj
              subst hj
              exact hfar7 _ _ HFR.out
          case measure => simp [intOf]; omega
    · obtain rfl : r = n := by omega
      obtain ⟨A4, c4, rfl⟩ := own_form HC.out.2.1
      go_wp2_with fail
      go_ret
      exact ⟨A4, c4, hs, rfl, HC.out, HBR.out⟩

end Go.Proofs.YthehcjfljjfnmaaGreat
