/-
  The walk of the exact law of reading a sheet.
-/
import Derived.Test.YtdmgffcabjpihaaDoorPsf
namespace Go.Proofs.YtdmgffcabjpihaaDoor
open Go.RowKit
open Go.Sort (grow)

theorem bs_all (a : ByteArray) : a = bs a.data.toList := by
  apply ByteArray.ext
  simp [bs]
theorem own_grown {w w' : World} {base : Nat} {e : TypeId} {size : Nat} {v u : Value} {n : Nat} {xs : List Value} {B : Nat} (h : w.ownsRow base e size v n xs) (hg : w.grownBy w' u.ownBlock) (hv : ∀ k, v.ownBlock = some k → k < B) (hu : ∀ k, u.ownBlock = some k → B ≤ k) : w'.ownsRow base e size v n xs :=
  own_kept h hg (fun k hk j hj => by have h1 := hv j hj; have h2 := hu k hk; omega)
theorem blk_grown {w w' : World} {g : Nat} {cs : Array Value} {t : TypeId} {u : Value} (h : Blk w g cs t) (hg : w.grownBy w' u.ownBlock) (hu : ∀ k, u.ownBlock = some k → g ≠ k) : Blk w' g cs t :=
  (hg.block g h.lt (fun e => hu g e.symm rfl)).trans h
/-- The sheet that two readings hand back is one. -/
theorem pr_same {t : List UInt8} {r r' : Option (Int × Sp × List Rw)} (h : ∀ p s L, r = some (p, s, L) ↔ shOk p s L = true ∧ shT p s L = t) (h' : ∀ p s L, r' = some (p, s, L) ↔ shOk p s L = true ∧ shT p s L = t) : r' = r := by
  apply Option.ext
  rintro ⟨p, s, L⟩
  exact (h' p s L).trans (h p s L).symm
theorem pr_len {t : List UInt8} {r : Option (Int × Sp × List Rw)} (h : ∀ p s L, r = some (p, s, L) ↔ shOk p s L = true ∧ shT p s L = t) {p : Int} {s : Sp} {L : List Rw} (e : (p, s, L) = r.getD (0, ⟨0, 0⟩, [])) : L.length ≤ 8 := by
  cases r with
  | none => cases e; simp
  | some x =>
    simp only [Option.getD_some] at e
    subst e
    exact (shOk_iff.1 ((h p s L).1 rfl).1).2.2.1
/-- A box with a sheet. -/
def Bsh (w : World) (g : Nat) (p : Int) (s : Sp) (A : Option Addr) (n c : Nat) : Prop := Blk w g #[.int .i64 p, .int .i64 s.x, .int .i64 s.y, .slice A n c] 33
theorem Bsh.below {w w' : World} {g : Nat} {p : Int} {s : Sp} {A : Option Addr} {n c : Nat} (h : Bsh w g p s A n c) (hq : Below w.heap.size w w') : Bsh w' g p s A n c := Blk.below h hq (Blk.lt h)
theorem Bsh.cells {w : World} {g : Nat} {p : Int} {s : Sp} {A : Option Addr} {n c : Nat} (h : Bsh w g p s A n c) : w.cell? ⟨g, 0, none⟩ = some (.int .i64 p) ∧ w.cell? ⟨g, 1, none⟩ = some (.int .i64 s.x) ∧ w.cell? ⟨g, 2, none⟩ = some (.int .i64 s.y) ∧ w.cell? ⟨g, 3, none⟩ = some (.slice A n c) :=
  ⟨Blk.cell h 0, Blk.cell h 1, Blk.cell h 2, Blk.cell h 3⟩
theorem Bsh.new (w : World) (p : Int) (s : Sp) (A : Option Addr) (n c : Nat) : Bsh (w.alloc (.cells #[.int .i64 p, .int .i64 s.x, .int .i64 s.y, .slice A n c] 33)) w.heap.size p s A n c := Blk.new w _ _

set_option maxRecDepth 100000 in
set_option maxHeartbeats 6400000 in
theorem FnExactParseSheet_walk (a0 : ByteArray) (w : World) (hT : ∃ m, Mxl w m) : Calls Tryd.prog 4 #[.string a0] w fun e w' => e = .returned (.bool true) ∧ Below w.heap.size w w' := by
  obtain ⟨m, hmx⟩ := hT
  obtain ⟨t, ht⟩ : ∃ t, a0 = bs t := ⟨_, bs_all a0⟩
  subst ht
  have hz := bs_size t
  by_cases hl : 1048576 < t.length
  · have hl2 : (1048576 : Int) < t.length := by omega
    clear hl
    go_enter Tryd.func4, Tryd.ntmps4
    go_wp2
    go_ret
    exact ⟨rfl, Below.refl _ _⟩
  have hl2 : ¬ (1048576 : Int) < t.length := by omega
  have htl : t.length ≤ 1048576 := by omega
  have HX := Lib.hid hmx
  clear hmx hl
  go_enter Tryd.func4, Tryd.ntmps4
  go_wp2_with fail
  refine (spec_ParseSheet_any t htl w).mono ?_
  rintro e w1 ⟨r, A1, c1, p, s, L, hr, hv, rfl, ho, hq⟩
  have hL : L.length ≤ 8 := pr_len hr hv
  have HR := Lib.hid hr
  have HV := Lib.hid hv
  have hlt1 : ∀ k, (Value.slice A1 L.length c1).ownBlock = some k → k < w1.heap.size := fun k hk => (ho.lt k hk).2
  have HLT1 := Lib.hid hlt1
  have hqa : Below w1.heap.size w1 (w1.alloc (.cells #[.int .i64 p, .int .i64 s.x, .int .i64 s.y, .slice A1 L.length c1] 33)) := (Below.refl _ _).alloc (Nat.le_refl _) _
  have HB3 := Lib.hid (Bsh.new w1 p s A1 L.length c1)
  have HO3 := Lib.hid (own_below ho hqa)
  have HQ1 := Lib.hid (Below.next hqa hq hq.size)
  have HG1 := Lib.hid hq.size
  have HSZ := Lib.hid (show (w1.alloc (.cells #[.int .i64 p, .int .i64 s.x, .int .i64 s.y, .slice A1 L.length c1] 33)).heap.size = w1.heap.size + 1 by simp)
  clear hr hv ho hq hqa hlt1
  go_wp2_with fail
  generalize w1.alloc (.cells #[.int .i64 p, .int .i64 s.x, .int .i64 s.y, .slice A1 L.length c1] 33) = w2 at *
  generalize w1.heap.size = g3 at *
  refine (impl_ParseSheet_any t htl m w2 (HX.out.below HQ1.out)).mono ?_
  rintro e w3 ⟨r', A2, c2, p', s', L', hr', hv', rfl, ho, hq⟩
  obtain rfl := pr_same HR.out hr'
  have hpp := HV.out.trans hv'.symm
  simp only [Prod.mk.injEq] at hpp
  obtain ⟨rfl, rfl, rfl⟩ := hpp
  have HLT2 := Lib.hid (show ∀ k, (Value.slice A2 L.length c2).ownBlock = some k → g3 + 1 ≤ k ∧ k < w3.heap.size from fun k hk => by have := ho.lt k hk; rw [HSZ.out] at this; exact this)
  have hqa : Below w3.heap.size w3 (w3.alloc (.cells #[.int .i64 p, .int .i64 s.x, .int .i64 s.y, .slice A2 L.length c2] 33)) := (Below.refl _ _).alloc (Nat.le_refl _) _
  have HB5 := Lib.hid (Bsh.new w3 p s A2 L.length c2)
  have HO5 := Lib.hid (own_below ho hqa)
  have HB3b := Lib.hid ((HB3.out.below hq).below hqa)
  have HO3b := Lib.hid (own_below (own_below HO3.out hq) hqa)
  have HQ3 := Lib.hid (Below.next hqa (Below.next hq HQ1.out HQ1.out.size) (Nat.le_trans HQ1.out.size hq.size))
  have HSZ2 := Lib.hid HSZ.out
  obtain ⟨p0, p1, p2, p3⟩ := (HB3.out.below hq).cells
  have hg3 : g3 < w3.heap.size := Blk.lt (HB3.out.below hq)
  have HG3 := Lib.hid hg3
  clear hr' hv' ho hq hqa HB3 HO3 HQ1 HSZ
  go_wp2_with fail
  clear p0 p1 p2 p3 hg3
  generalize w3.alloc (.cells #[.int .i64 p, .int .i64 s.x, .int .i64 s.y, .slice A2 L.length c2] 33) = w4 at *
  generalize w3.heap.size = g5 at *
  refine (eqSheet_any p p s s _ _ _ _ L L w4 (Mem.of_own HO5.out) (Mem.of_own HO3b.out) (by omega) (by omega)).mono ?_
  rintro e w5 ⟨he, hq⟩
  rw [shEq_same] at he
  subst he
  have HB3c := Lib.hid (HB3b.out.below hq)
  have HB5c := Lib.hid (HB5.out.below hq)
  have HO3c := Lib.hid (own_below HO3b.out hq)
  have HO5c := Lib.hid (own_below HO5.out hq)
  have HQ4 := Lib.hid (Below.next hq HQ3.out HQ3.out.size)
  have HG4 := Lib.hid (Blk.lt HB5.out)
  have HG5 := Lib.hid hq.size
  obtain ⟨p0, p1, p2, p3⟩ := HB5c.out.cells
  clear hq HB3b HB5 HO3b HO5 HQ3
  go_wp2_with fail
  clear p0 p1 p2 p3
  refine (markSheet_any p s (g3 + 1) A2 c2 L 1 w5 (by rw [HSZ2.out] at HO5c; exact HO5c.out) (by omega) (by omega) (by omega) (by have h1 := HG3.out; have h2 := HG4.out; have h3 := HG5.out; omega)).mono ?_
  rintro e w6 ⟨rfl, hom, hgr⟩
  have HB3d := Lib.hid (blk_grown HB3c.out hgr (fun k hk => by have := HLT2.out k hk; omega))
  have HB5d := Lib.hid (blk_grown HB5c.out hgr (fun k hk => by have := HLT2.out k hk; omega))
  have HO3d := Lib.hid (own_grown HO3c.out hgr (B := g3) HLT1.out (fun k hk => by have := HLT2.out k hk; omega))
  have HOM := Lib.hid hom
  have HQ5 := Lib.hid (below_grown HQ4.out hgr HQ4.out.size (fun k hk => by have h1 := HLT2.out k hk; have h2 := HG1.out; omega))
  have HG6 := Lib.hid hgr.size
  obtain ⟨p0, p1, p2, p3⟩ := Bsh.cells HB5d.out
  clear hom hgr HB3c HB5c HO3c HO5c HQ4
  go_wp2_with fail
  clear p0 p1 p2 p3
  refine (heldSheet_any p s A2 L.length c2 1 w6 (Mem.of_own HOM.out) (by omega) (by omega) (by omega)).mono ?_
  rintro e w7 ⟨rfl, hq⟩
  have HB3e := Lib.hid (Bsh.below HB3d.out hq)
  have HB5e := Lib.hid (Bsh.below HB5d.out hq)
  have HO3e := Lib.hid (own_below HO3d.out hq)
  have HOMe := Lib.hid (own_below HOM.out hq)
  have HQ6 := Lib.hid (Below.next hq HQ5.out HQ5.out.size)
  clear hq HB3d HB5d HO3d HOM HQ5
  have hn1 : ¬ (1 + 3 * (L.length : Int) < 0) := by omega
  go_wp2_with fail
  refine (impl_ParseSheet_any t htl m w7 (HX.out.below HQ6.out)).mono ?_
  rintro e w8 ⟨r'', A3, c3, p', s', L', hr'', hv'', rfl, ho, hq⟩
  obtain rfl := pr_same HR.out hr''
  have hpp := HV.out.trans hv''.symm
  simp only [Prod.mk.injEq] at hpp
  obtain ⟨rfl, rfl, rfl⟩ := hpp
  have hqa : Below w8.heap.size w8 (w8.alloc (.cells #[.int .i64 p, .int .i64 s.x, .int .i64 s.y, .slice A3 L.length c3] 33)) := (Below.refl _ _).alloc (Nat.le_refl _) _
  have HB9 := Lib.hid (Bsh.new w8 p s A3 L.length c3)
  have HO9 := Lib.hid (own_below ho hqa)
  have HB3f := Lib.hid ((HB3e.out.below hq).below hqa)
  have HB5f := Lib.hid ((HB5e.out.below hq).below hqa)
  have HO3f := Lib.hid (own_below (own_below HO3e.out hq) hqa)
  have HOMf := Lib.hid (own_below (own_below HOMe.out hq) hqa)
  have HQ7 := Lib.hid (Below.next hqa (Below.next hq HQ6.out HQ6.out.size) (Nat.le_trans HQ6.out.size hq.size))
  obtain ⟨p0, p1, p2, p3⟩ := (HB3e.out.below hq).cells
  have hg3 : g3 < w8.heap.size := Blk.lt (HB3e.out.below hq)
  clear hr'' hv'' ho hq hqa HB3e HB5e HO3e HOMe HQ6
  go_wp2_with fail
  clear p0 p1 p2 p3 hg3
  generalize w8.alloc (.cells #[.int .i64 p, .int .i64 s.x, .int .i64 s.y, .slice A3 L.length c3] 33) = w9 at *
  generalize w8.heap.size = g9 at *
  refine (eqSheet_any p p s s _ _ _ _ L L w9 (Mem.of_own HO9.out) (Mem.of_own HO3f.out) (by omega) (by omega)).mono ?_
  rintro e w10 ⟨he, hq⟩
  rw [shEq_same] at he
  subst he
  have HOMg := Lib.hid (own_below HOMf.out hq)
  have HQ8 := Lib.hid (Below.next hq HQ7.out HQ7.out.size)
  obtain ⟨p0, p1, p2, p3⟩ := Bsh.cells (Bsh.below HB5f.out hq)
  clear hq HOMf HQ7
  go_wp2_with fail
  clear p0 p1 p2 p3
  refine (heldSheet_any p s A2 L.length c2 1 w10 (Mem.of_own HOMg.out) (by omega) (by omega) (by omega)).mono ?_
  rintro e w11 ⟨rfl, hq⟩
  have HQ9 := Lib.hid (Below.next hq HQ8.out HQ8.out.size)
  clear hq
  go_wp2_with fail
  go_ret
  exact ⟨rfl, HQ9.out⟩
end Go.Proofs.YtdmgffcabjpihaaDoor
