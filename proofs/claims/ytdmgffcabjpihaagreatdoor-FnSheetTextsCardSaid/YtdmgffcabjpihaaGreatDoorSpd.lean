/-
  Draws: the text that ParseSheet is asked.
-/
import Derived.Test.YtdmgffcabjpihaaGreatDoorSpo
namespace Go.Proofs.YtdmgffcabjpihaaGreatDoor
open Go.RowKit

def DrT (w : World) (e : Ending) (w' : World) : Prop := ∃ t : List UInt8, e = .returned (.string (bs t)) ∧ t.length ≤ 1048576 ∧ Below w.heap.size w w'
theorem shT_len {p : Int} {s : Sp} {L : List Rw} (h : shOk p s L = true) : (shT p s L).length ≤ 400 := by
  have := ac_len h L.length
  rw [List.take_length, bs_size] at this
  exact this
set_option maxRecDepth 100000 in
set_option maxHeartbeats 6400000 in
theorem drawParseSheet_any (A : Option Addr) (c : Nat) (C : List Int) (w : World) (h : code w A C) : Calls Tryz.prog 21 #[.slice A C.length c] w (DrT w) := by
  have HC := Lib.hid (code.cur (c := c) h)
  have HB := Lib.hid (below_alloc w (.cells #[.slice A C.length c, .int .i64 0, .int .u64 0] 74))
  clear h
  obtain ⟨W0, hW0⟩ : ∃ x, w.alloc (.cells #[.slice A C.length c, .int .i64 0, .int .u64 0] 74) = x := ⟨_, rfl⟩
  have hlt : w.heap.size < W0.heap.size := by rw [← hW0]; simp
  go_enter Tryz.func21, Tryz.ntmps21
  go_wp2_with fail
  (try rw [hW0] at HC)
  (try rw [hW0] at HB)
  (try rw [hW0])
  refine (sheet_any w.heap.size 0 _ HC.out (by omega)).mono ?_
  rintro e w1 ⟨p, s, A1, c1, L, rfl, hown, hl, hsm, hc, ho⟩
  have O1 := Lib.hid hown
  have C1 := Lib.hid hc
  have B1 := Lib.hid (HB.out.trans (ho.below (B := w.heap.size) (Nat.le_refl _) (Nat.le_of_lt hlt)))
  clear hown hc ho hsm hW0 HC HB
  go_wp2_with fail
  have hqa := below_alloc w1 (.cells #[.int .i64 p, .int .i64 s.x, .int .i64 s.y, .slice A1 L.length c1] 28)
  have X2 := Lib.hid (Blk.new w1 #[.int .i64 p, .int .i64 s.x, .int .i64 s.y, .slice A1 L.length c1] 28)
  have O2 := Lib.hid (own_below O1.out hqa)
  have C2 := Lib.hid (C1.out.alloc (.cells #[.int .i64 p, .int .i64 s.x, .int .i64 s.y, .slice A1 L.length c1] 28))
  have B2 := Lib.hid (B1.out.trans (hqa.mono B1.out.size))
  have hx1 : w.heap.size < w1.heap.size := C1.out.lt
  clear hqa O1 C1 B1
  generalize w1.alloc (.cells #[.int .i64 p, .int .i64 s.x, .int .i64 s.y, .slice A1 L.length c1] 28) = w2 at *
  generalize w1.heap.size = b2 at *
  refine (shGood_any p s A1 c1 L w2 (Mem.of_own O2.out) (by omega)).mono ?_
  rintro e w3 ⟨rfl, hq⟩
  have X3 := Lib.hid (X2.out.below hq X2.out.lt)
  have O3 := Lib.hid (own_below O2.out hq)
  have C3 := Lib.hid (C2.out.below hq C2.out.lt)
  have B3 := Lib.hid (B2.out.trans (hq.mono B2.out.size))
  clear hq X2 O2 C2 B2
  cases hok : shOk p s L
  · clear hok
    go_wp2_with fail
    refine (of_any w.heap.size _ _ _ _ 40 _ [[], [112, 101, 114, 102, 111, 114, 109, 101, 114, 32, 48, 32, 48, 44, 48], [112, 101, 114, 102, 111, 114, 109, 101, 114, 32, 49, 50, 32, 48, 44, 48, 10], [112, 101, 114, 102, 111, 114, 109, 101, 114, 32, 48, 32, 48, 44, 48, 10, 48, 32, 49, 44, 49, 10], [112, 101, 114, 102, 111, 114, 109, 101, 114, 32, 48, 48, 32, 48, 44, 48, 10], [112, 101, 114, 102, 111, 114, 109, 101, 114, 32, 48, 32, 48, 44, 48, 10, 56, 10], [10]] _ (C3.out.alloc _) (by omega) (Blk.new _ _ _) rfl rfl (by have := C3.out.lt; omega) (by simp) (by simp) (by simp)).mono ?_
    rintro e w4 ⟨t, rfl, ht, _, ho⟩
    have B4 := Lib.hid ((B3.out.trans ((below_alloc w3 _).mono B3.out.size)).trans (ho.below (B := w.heap.size) (Nat.le_refl _) (by have := C3.out.lt; simp; omega)))
    clear ho
    go_wp2_with fail
    go_ret
    exact ⟨t, rfl, by omega, B4.out⟩
  · have HK := Lib.hid hok
    clear hok
    obtain ⟨p0, p1, p2, p3⟩ : w3.cell? ⟨b2, 0, none⟩ = some (.int .i64 p) ∧ w3.cell? ⟨b2, 1, none⟩ = some (.int .i64 s.x) ∧ w3.cell? ⟨b2, 2, none⟩ = some (.int .i64 s.y) ∧ w3.cell? ⟨b2, 3, none⟩ = some (.slice A1 L.length c1) := ⟨X3.out.cell 0, X3.out.cell 1, X3.out.cell 2, X3.out.cell 3⟩
    go_wp2_with fail
    clear p0 p1 p2 p3
    refine (shText_any p s A1 c1 L w3 (Mem.of_own O3.out) HK.out).mono ?_
    rintro e w4 ⟨rfl, hq⟩
    have C4 := Lib.hid (C3.out.below hq C3.out.lt)
    have B4 := Lib.hid (B3.out.trans (hq.mono B3.out.size))
    clear hq
    go_wp2_with fail
    refine (one_any w.heap.size _ 3 _ C4.out (by omega) (by omega)).mono ?_
    rintro e w5 ⟨b, rfl, hc, ho⟩
    have C5 := Lib.hid hc
    have B5 := Lib.hid (B4.out.trans (ho.below (B := w.heap.size) (Nat.le_refl _) (by have := C4.out.lt; omega)))
    have hT := shT_len HK.out
    clear hc ho
    cases b
    · go_wp2_with fail
      go_ret
      exact ⟨_, rfl, by omega, B5.out⟩
    · go_wp2_with fail
      refine (spoilt_any w.heap.size _ _ [48, 49, 56, 43, 44, 32, 10] _ C5.out (by omega) (by omega) (by simp) (by simp)).mono ?_
      rintro e w6 ⟨t, rfl, ht, _, ho⟩
      have B6 := Lib.hid (B5.out.trans (ho.below (B := w.heap.size) (Nat.le_refl _) (by have := C5.out.lt; omega)))
      clear ho
      go_wp2_with fail
      go_ret
      exact ⟨t, rfl, by omega, B6.out⟩
end Go.Proofs.YtdmgffcabjpihaaGreatDoor
