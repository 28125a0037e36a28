/-
  FnSheetTexts: the laws' own functions pSameSheet, pSameMoves.
-/
import Derived.Test.YtdmgffcabjpihaaGreatDoorDsz
import Derived.Test.YtdmgffcabjpihaaGreatDoorLws
import Derived.Test.YtdmgffcabjpihaaGreatDoorShm
import Derived.BigQuiet
namespace Go.Proofs.YtdmgffcabjpihaaGreatDoor
open Go.RowKit Go.Sort

set_option maxRecDepth 100000 in
theorem pSameSheet_same (p : Int) (s : Sp) (A B : Option Addr) (c d : Nat) (L : List Rw) (w : World) (hm : Mem w A (rows L)) (hn : Mem w B (rows L)) (hl : L.length ≤ 1048576) :
    Calls Tryz.prog 15 #[.agg #[.int .i64 p, .int .i64 s.x, .int .i64 s.y, .slice A L.length c], .agg #[.int .i64 p, .int .i64 s.x, .int .i64 s.y, .slice B L.length d]] w fun e w' => e = .returned (.bool true) ∧ Below w.heap.size w w' := by
  have HB0 := Lib.hid ((Blk.new w #[.int .i64 p, .int .i64 s.x, .int .i64 s.y, .slice A L.length c] 28).alloc (.cells #[.int .i64 p, .int .i64 s.x, .int .i64 s.y, .slice B L.length d] 28))
  have HB1 := Lib.hid (show Blk ((w.alloc (.cells #[.int .i64 p, .int .i64 s.x, .int .i64 s.y, .slice A L.length c] 28)).alloc (.cells #[.int .i64 p, .int .i64 s.x, .int .i64 s.y, .slice B L.length d] 28)) (w.heap.size + 1) #[.int .i64 p, .int .i64 s.x, .int .i64 s.y, .slice B L.length d] 28 from blk_new (by simp))
  have HB := Lib.hid ((below_alloc w (.cells #[.int .i64 p, .int .i64 s.x, .int .i64 s.y, .slice A L.length c] 28)).trans ((below_alloc _ (.cells #[.int .i64 p, .int .i64 s.x, .int .i64 s.y, .slice B L.length d] 28)).mono (by simp)))
  obtain ⟨W0, hW0⟩ : ∃ x, (w.alloc (.cells #[.int .i64 p, .int .i64 s.x, .int .i64 s.y, .slice A L.length c] 28)).alloc (.cells #[.int .i64 p, .int .i64 s.x, .int .i64 s.y, .slice B L.length d] 28) = x := ⟨_, rfl⟩
  rw [hW0] at HB0 HB1 HB
  have HM := Lib.hid (hm.below HB.out)
  have HN := Lib.hid (hn.below HB.out)
  have z0 := (HB0.out.cell 0).trans (show _ = some (Value.int .i64 p) from rfl)
  have z1 := (HB0.out.cell 1).trans (show _ = some (Value.int .i64 s.x) from rfl)
  have z2 := (HB0.out.cell 2).trans (show _ = some (Value.int .i64 s.y) from rfl)
  have z3 := (HB0.out.cell 3).trans (show _ = some (Value.slice A L.length c) from rfl)
  have y0 := (HB1.out.cell 0).trans (show _ = some (Value.int .i64 p) from rfl)
  have y1 := (HB1.out.cell 1).trans (show _ = some (Value.int .i64 s.x) from rfl)
  have y2 := (HB1.out.cell 2).trans (show _ = some (Value.int .i64 s.y) from rfl)
  have y3 := (HB1.out.cell 3).trans (show _ = some (Value.slice B L.length d) from rfl)
  clear hm hn
  go_enter Tryz.func15, Tryz.ntmps15
  go_wp2
  (try rw [hW0])
  clear hW0 z0 z1 z2 z3 y0 y1 y2 y3
  go_loopw [5, 30] (fun _ i wr => ∃ k : Nat, k ≤ L.length ∧ i = .int .i64 k ∧ Below W0.heap.size W0 wr) (fun _ i _ => L.length - (intOf i).toNat)
  case atStart => exact ⟨0, by omega, rfl, Below.refl _ _⟩
  case round =>
    obtain ⟨k, hk, rfl, hb⟩ := hrel
    by_cases hlt : k < L.length
    · obtain ⟨r, hr⟩ := some_of_lt hlt
      obtain ⟨b, off, rfl, h1, h2, h3⟩ := (HM.out.below hb).row hr
      obtain ⟨b', off', rfl, h4, h5, h6⟩ := (HN.out.below hb).row hr
      have z3 := ((HB0.out.below hb HB0.out.lt).cell 3).trans (show _ = some (Value.slice (some ⟨b, off, none⟩) L.length c) from rfl)
      have y3 := ((HB1.out.below hb HB1.out.lt).cell 3).trans (show _ = some (Value.slice (some ⟨b', off', none⟩) L.length d) from rfl)
      clear hr
      go_wp2
      go_quiet (fail)
      go_wp2
      go_roundw
      case rel => exact ⟨k + 1, by omega, by go_num, Below.drewN hb _⟩
      case measure => simp [intOf]; omega
    · have HBE := Lib.hid (HB.out.trans (hb.mono HB.out.size))
      clear hb
      go_wp2
      go_ret
      exact ⟨rfl, HBE.out⟩
set_option maxHeartbeats 1600000 in
set_option maxRecDepth 100000 in
theorem pSameMoves_same (A B : Option Addr) (c d : Nat) (L : List Mv) (w : World) (hm : Mem w A (moves L)) (hn : Mem w B (moves L)) (hl : L.length ≤ 1048576) : Calls Tryz.prog 14 #[.slice A L.length c, .slice B L.length d] w fun e w' => e = .returned (.bool true) ∧ Below w.heap.size w w' := by
  go_enter Tryz.func14, Tryz.ntmps14
  go_wp2
  go_loopw [5, 13] (fun _ i wr => ∃ k : Nat, k ≤ L.length ∧ i = .int .i64 k ∧ Below w.heap.size w wr) (fun _ i _ => L.length - (intOf i).toNat)
  case atStart => exact ⟨0, by omega, rfl, Below.refl _ _⟩
  case round =>
    obtain ⟨k, hk, rfl, hb⟩ := hrel
    by_cases hlt : k < L.length
    · obtain ⟨s, hs⟩ := some_of_lt hlt
      obtain ⟨b, off, rfl, h1, h2, h3, h4, h5⟩ := (hm.below hb).move hs
      obtain ⟨b', off', rfl, g1, g2, g3, g4, g5⟩ := (hn.below hb).move hs
      clear hs
      go_wp2
      go_quiet (fail)
      go_wp2
      go_roundw
      case rel => exact ⟨k + 1, by omega, by go_num, Below.drewN hb _⟩
      case measure => simp [intOf]; omega
    · go_wp2
      go_ret
      exact ⟨rfl, hb⟩
end Go.Proofs.YtdmgffcabjpihaaGreatDoor
