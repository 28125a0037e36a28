/-
  Draws: what SameWays is asked.
-/
import Derived.Test.YtdmgffcabjpihaaGreatDoorDsv
import Derived.Deep.RegionLaw
namespace Go.Proofs.YtdmgffcabjpihaaGreatDoor
open Go.RowKit

set_option maxRecDepth 100000 in
set_option maxHeartbeats 6400000 in
theorem drawSameWays_any (A : Option Addr) (c : Nat) (C : List Int) (w : World) (h : code w A C) : Calls Tryz.prog 23 #[.slice A C.length c] w (DrSW w) := by
  have hq0 : Below w.heap.size w ((w.alloc (.cells #[.int .i64 0, .int .i64 0, .int .i64 0, .slice none 0 0] 28)).alloc (.cells #[.int .i64 0, .int .i64 0, .int .i64 0, .slice none 0 0] 28)) := ((Below.refl _ _).alloc (Nat.le_refl _) _).alloc (by simp) _
  have HC := Lib.hid (code.cur (c := c) (h.below hq0))
  have HB := Lib.hid (hq0.alloc (by simp; omega) (.cells #[.slice A C.length c, .int .i64 0, .int .u64 0] 74))
  have HZ := Lib.hid (((Blk.new w #[.int .i64 0, .int .i64 0, .int .i64 0, .slice none 0 0] 28).alloc (.cells #[.int .i64 0, .int .i64 0, .int .i64 0, .slice none 0 0] 28)).alloc (.cells #[.slice A C.length c, .int .i64 0, .int .u64 0] 74))
  have HY := Lib.hid ((Blk.new (w.alloc (.cells #[.int .i64 0, .int .i64 0, .int .i64 0, .slice none 0 0] 28)) #[.int .i64 0, .int .i64 0, .int .i64 0, .slice none 0 0] 28).alloc (.cells #[.slice A C.length c, .int .i64 0, .int .u64 0] 74))
  clear h hq0
  obtain ⟨W1, hW1⟩ : ∃ x, (w.alloc (.cells #[.int .i64 0, .int .i64 0, .int .i64 0, .slice none 0 0] 28)).alloc (.cells #[.int .i64 0, .int .i64 0, .int .i64 0, .slice none 0 0] 28) = x := ⟨_, rfl⟩
  have hs1 : W1.heap.size = w.heap.size + 2 := by rw [← hW1]; simp
  have hs0 : (w.alloc (.cells #[.int .i64 0, .int .i64 0, .int .i64 0, .slice none 0 0] 28)).heap.size = w.heap.size + 1 := by simp
  rw [hW1, hs1] at HC
  rw [hW1] at HB HZ
  rw [hW1, hs0] at HY
  obtain ⟨W0, hW0⟩ : ∃ x, W1.alloc (.cells #[.slice A C.length c, .int .i64 0, .int .u64 0] 74) = x := ⟨_, rfl⟩
  have hlt : w.heap.size + 2 < W0.heap.size := by rw [← hW0]; simp; omega
  go_enter Tryz.func23, Tryz.ntmps23
  go_wp2_with fail
  (try rw [hW1])
  rw [hW0] at HC HB HZ HY
  (try rw [hW0])
  refine (sheet_any (w.heap.size + 2) 0 _ HC.out (by omega)).mono ?_
  rintro e w1 ⟨p, s, A1, c1, L, rfl, hown, hl, hsm, hc, ho⟩
  have hlt1 : w.heap.size + 2 < w1.heap.size := Nat.lt_of_lt_of_le hlt ho.size
  obtain ⟨V, hV⟩ : ∃ x, w1.alloc (.cells #[.int .i64 p, .int .i64 s.x, .int .i64 s.y, .slice A1 L.length c1] 28) = x := ⟨_, rfl⟩
  have hVs : V.heap.size = w1.heap.size + 1 := by rw [← hV]; simp
  have O1 := Lib.hid (show V.ownsRow (w.heap.size + 3) 46 3 (.slice A1 L.length c1) L.length (rows L) by rw [← hV]; exact own_base (own_below hown (below_alloc _ _)) (by omega))
  have OL := Lib.hid (fun k (hk : (Value.slice A1 L.length c1).ownBlock = some k) => (hown.lt k hk).2)
  have C1 := Lib.hid (show Cur V (w.heap.size + 2) 800 by rw [← hV]; exact (hc.mono (by omega)).alloc _)
  have B1 := Lib.hid (show Below w.heap.size w V by rw [← hV]; exact (HB.out.trans (ho.below (B := w.heap.size) (by omega) (by omega))).alloc (by omega) _)
  have Z1 := Lib.hid (show Blk V w.heap.size #[.int .i64 0, .int .i64 0, .int .i64 0, .slice none 0 0] 28 by rw [← hV]; exact (ho.blk HZ.out (by omega)).alloc _)
  have Y1 := Lib.hid (show Blk V (w.heap.size + 1) #[.int .i64 0, .int .i64 0, .int .i64 0, .slice none 0 0] 28 by rw [← hV]; exact (ho.blk HY.out (by omega)).alloc _)
  have S1 := Lib.hid (show Blk V w1.heap.size #[.int .i64 p, .int .i64 s.x, .int .i64 s.y, .slice A1 L.length c1] 28 by rw [← hV]; exact Blk.new _ _ _)
  have CS := Lib.hid (show Box4 V w1.heap.size (.int .i64 p) (.int .i64 s.x) (.int .i64 s.y) (.slice A1 L.length c1) from ⟨S1.out.cell 0, S1.out.cell 1, S1.out.cell 2, S1.out.cell 3⟩)
  clear hown hc ho hsm HC HB HZ HY
  go_upto_region 3 with (fail)
  (try rw [hV])
  generalize w1.heap.size = sb at *
  have hltV : sb < V.heap.size := by omega
  have hsb : sb + 1 = V.heap.size := by omega
  clear hVs hV hW1 hs1 hs0 hW0 hlt
  go_cut [6] from 13 to 21 (fun v6 wx => ∃ b6 q A8 c8, v6 = .pointer (some ⟨b6, 0, none⟩) ∧ Sw6 w wx 802 sb b6 p s A1 c1 L q A8 c8 L)
  case first =>
    obtain ⟨i0, hi, hz0, hz1, hz2⟩ := info_parts info_row
    have CP := Lib.hid (fun (w' : World) (h : Cur w' (w.heap.size + 2) 800) => pick_any (w.heap.size + 2) 800 4 w' 65535 h (by omega) (by omega) (by omega) (by omega))
    have hzb : sb ≠ w.heap.size + 2 := by omega
    have hlV : w.heap.size + 2 < V.heap.size := by omega
    have HMX := Lib.hid (show 0 + L.length ≤ maxLen by unfold maxLen; omega)
    have HBY := Lib.hid (show (0 + L.length) * 24 ≤ 140737488355328 by omega)
    go_region_held3 (fun wx => wx.cell? ⟨sb, 0, none⟩ = some (.int .i64 p) ∧ wx.cell? ⟨sb, 1, none⟩ = some (.int .i64 s.x) ∧ wx.cell? ⟨sb, 2, none⟩ = some (.int .i64 s.y) ∧ wx.cell? ⟨sb, 3, none⟩ = some (.slice A1 L.length c1))
      (repeat (first | with_reducible exact CS.out | with_reducible exact hS8 | with_reducible exact hS5 | with_reducible refine keepE4 ?_ | with_reducible refine keepD4 ?_ | with_reducible refine keepP4 ?_ (by omega)))
      (first
        | ((first | (have hh5 := hc5) | fail); refine step_append_copy _ rfl (.tmp 17) (.tmp 19) 26 rfl V.heap.size (w.heap.size + 3) 46 i0 _ 3 24 Tryz.underlying26 hi hz0 hz1 hz2 rfl (by omega) (.slice (some ⟨w5.heap.size, 0, none⟩) 0 0) 0 [] ?_ ?_ A1 L.length c1 (rows L) ?_ ?_ (rows_one _) HMX.out HBY.out ?_ ?_; (focus (first | rfl | (simp [go_sem]; done) | fail)); (focus (repeat (first | with_reducible refine own_drew ?_ | with_reducible refine own_empty _ _ (by first | rfl | (simp; done) | (simp; omega)) (by first | omega | (simp; omega)) rfl | with_reducible refine HO5 _ _ _ _ _ _ ?_ (by omega) | with_reducible refine ownD ?_))); (focus (first | rfl | (simp [go_sem]; done) | fail)); (focus (repeat (first | with_reducible exact O1.out | with_reducible refine own_drew ?_ | with_reducible refine HO5 _ _ _ _ _ _ ?_ (by omega) | with_reducible refine ownD ?_))); (focus (first | omega | (simp; omega))); intro v8 w8 ho8 hg8 hat8; obtain ⟨A8, c8, rfl⟩ := own_form ho8; have HB8 : Below V.heap.size w5 w8 := (by refine growB hg8 ?_ hz5 ?_; (repeat (first | exact Below.refl _ _ | assumption | (refine Below.alloc ?_ (by first | omega | (simp; done) | (simp; omega)) _) | (refine Below.setCell ?_ (by first | omega | (simp; done) | (simp; omega)) _) | (refine Below.drew ?_) | (refine Below.drewN ?_ _) | (refine Below.next (by assumption) ?_ (by first | omega | (simp; done) | (simp; omega))))); (intro j hj; simp [Value.ownBlock] at hj; omega)); have hS8 : Box4 w8 sb (.int .i64 p) (.int .i64 s.x) (.int .i64 s.y) (.slice A1 L.length c1) := keepW4 HB8 hS5 hltV; have HK8 := (fun (q : Nat) (cs : Array Value) (t : TypeId) (h : Blk _ q cs t) (hne : q ≠ w5.heap.size) => (show Blk w8 q cs t from (hg8.block q h.lt (fun e => hne (Option.some.inj e))).trans h)); (try (refine (fun (B6 : Blk w8 (w5.heap.size + 1) #[.int .i64 0, .int .i64 0, .int .i64 0, .slice none 0 0] 28) => ?_) ?_; rotate_left; (focus ((refine HK8 _ _ _ ?_ ?_); (focus ((repeat (first | with_reducible refine Blk.drew ?_ | (with_reducible refine blk_new ?_; (first | rfl | (simp; done) | (simp; omega))) | with_reducible refine Blk.alloc ?_ _ | (with_reducible refine HK5 _ _ _ ?_ ?_; rotate_left; (focus omega)))); done)); (focus (first | omega | (simp; omega))))); (refine (fun (N6 : (Value.slice A8 (0 + L.length) c8).ownBlock ≠ some (w5.heap.size + 1)) => ?_) ?_); rotate_left; (focus (refine apart_of hat8 rfl ?_ ?_ <;> (first | omega | (simp; done) | (simp; omega)))); have u0 := B6.frozen 0; have u1 := B6.frozen 1; have u2 := B6.frozen 2; have u3 := B6.frozen 3; have u4 := B6.cell 0; have u5 := B6.cell 1; have u6 := B6.cell 2; have u7 := B6.cell 3; (try simp at u4); (try simp at u5); (try simp at u6); (try simp at u7); have hl6 := B6.lt)); (try (refine (fun (B6 : Blk w8 V.heap.size #[.int .i64 0, .int .i64 0, .int .i64 0, .slice none 0 0] 28) => ?_) ?_; rotate_left; (focus ((refine HK8 _ _ _ ?_ ?_); (focus ((repeat (first | with_reducible refine Blk.drew ?_ | (with_reducible refine blk_new ?_; (first | rfl | (simp; done) | (simp; omega))) | with_reducible refine Blk.alloc ?_ _ | (with_reducible refine HK5 _ _ _ ?_ ?_; rotate_left; (focus omega)))); done)); (focus (first | omega | (simp; omega))))); (refine (fun (N6 : (Value.slice A8 (0 + L.length) c8).ownBlock ≠ some V.heap.size) => ?_) ?_); rotate_left; (focus (refine apart_of hat8 rfl ?_ ?_ <;> (first | omega | (simp; done) | (simp; omega)))); have u0 := B6.frozen 0; have u1 := B6.frozen 1; have u2 := B6.frozen 2; have u3 := B6.frozen 3; have u4 := B6.cell 0; have u5 := B6.cell 1; have u6 := B6.cell 2; have u7 := B6.cell 3; (try simp at u4); (try simp at u5); (try simp at u6); (try simp at u7); have hl6 := B6.lt)); (try (refine (fun (B6 : Blk w8 (V.heap.size + 1) #[.int .i64 0, .int .i64 0, .int .i64 0, .slice none 0 0] 28) => ?_) ?_; rotate_left; (focus ((refine HK8 _ _ _ ?_ ?_); (focus ((repeat (first | with_reducible refine Blk.drew ?_ | (with_reducible refine blk_new ?_; (first | rfl | (simp; done) | (simp; omega))) | with_reducible refine Blk.alloc ?_ _ | (with_reducible refine HK5 _ _ _ ?_ ?_; rotate_left; (focus omega)))); done)); (focus (first | omega | (simp; omega))))); (refine (fun (N6 : (Value.slice A8 (0 + L.length) c8).ownBlock ≠ some (V.heap.size + 1)) => ?_) ?_); rotate_left; (focus (refine apart_of hat8 rfl ?_ ?_ <;> (first | omega | (simp; done) | (simp; omega)))); have u0 := B6.frozen 0; have u1 := B6.frozen 1; have u2 := B6.frozen 2; have u3 := B6.frozen 3; have u4 := B6.cell 0; have u5 := B6.cell 1; have u6 := B6.cell 2; have u7 := B6.cell 3; (try simp at u4); (try simp at u5); (try simp at u6); (try simp at u7); have hl6 := B6.lt)))
        | ((first | (have hh5 := hc5) | fail); refine step_append_copy _ rfl (.tmp 17) (.tmp 19) 26 rfl V.heap.size (w.heap.size + 3) 46 i0 _ 3 24 Tryz.underlying26 hi hz0 hz1 hz2 rfl (by omega) (.slice (some ⟨(w5.heap.size + 1), 0, none⟩) 0 0) 0 [] ?_ ?_ A1 L.length c1 (rows L) ?_ ?_ (rows_one _) HMX.out HBY.out ?_ ?_; (focus (first | rfl | (simp [go_sem]; done) | fail)); (focus (repeat (first | with_reducible refine own_drew ?_ | with_reducible refine own_empty _ _ (by first | rfl | (simp; done) | (simp; omega)) (by first | omega | (simp; omega)) rfl | with_reducible refine HO5 _ _ _ _ _ _ ?_ (by omega) | with_reducible refine ownD ?_))); (focus (first | rfl | (simp [go_sem]; done) | fail)); (focus (repeat (first | with_reducible exact O1.out | with_reducible refine own_drew ?_ | with_reducible refine HO5 _ _ _ _ _ _ ?_ (by omega) | with_reducible refine ownD ?_))); (focus (first | omega | (simp; omega))); intro v8 w8 ho8 hg8 hat8; obtain ⟨A8, c8, rfl⟩ := own_form ho8; have HB8 : Below V.heap.size w5 w8 := (by refine growB hg8 ?_ hz5 ?_; (repeat (first | exact Below.refl _ _ | assumption | (refine Below.alloc ?_ (by first | omega | (simp; done) | (simp; omega)) _) | (refine Below.setCell ?_ (by first | omega | (simp; done) | (simp; omega)) _) | (refine Below.drew ?_) | (refine Below.drewN ?_ _) | (refine Below.next (by assumption) ?_ (by first | omega | (simp; done) | (simp; omega))))); (intro j hj; simp [Value.ownBlock] at hj; omega)); have hS8 : Box4 w8 sb (.int .i64 p) (.int .i64 s.x) (.int .i64 s.y) (.slice A1 L.length c1) := keepW4 HB8 hS5 hltV; have HK8 := (fun (q : Nat) (cs : Array Value) (t : TypeId) (h : Blk _ q cs t) (hne : q ≠ (w5.heap.size + 1)) => (show Blk w8 q cs t from (hg8.block q h.lt (fun e => hne (Option.some.inj e))).trans h)); (try (refine (fun (B6 : Blk w8 w5.heap.size #[.int .i64 0, .int .i64 0, .int .i64 0, .slice none 0 0] 28) => ?_) ?_; rotate_left; (focus ((refine HK8 _ _ _ ?_ ?_); (focus ((repeat (first | with_reducible refine Blk.drew ?_ | (with_reducible refine blk_new ?_; (first | rfl | (simp; done) | (simp; omega))) | with_reducible refine Blk.alloc ?_ _ | (with_reducible refine HK5 _ _ _ ?_ ?_; rotate_left; (focus omega)))); done)); (focus (first | omega | (simp; omega))))); (refine (fun (N6 : (Value.slice A8 (0 + L.length) c8).ownBlock ≠ some w5.heap.size) => ?_) ?_); rotate_left; (focus (refine apart_of hat8 rfl ?_ ?_ <;> (first | omega | (simp; done) | (simp; omega)))); have u0 := B6.frozen 0; have u1 := B6.frozen 1; have u2 := B6.frozen 2; have u3 := B6.frozen 3; have u4 := B6.cell 0; have u5 := B6.cell 1; have u6 := B6.cell 2; have u7 := B6.cell 3; (try simp at u4); (try simp at u5); (try simp at u6); (try simp at u7); have hl6 := B6.lt)); (try (refine (fun (B6 : Blk w8 V.heap.size #[.int .i64 0, .int .i64 0, .int .i64 0, .slice none 0 0] 28) => ?_) ?_; rotate_left; (focus ((refine HK8 _ _ _ ?_ ?_); (focus ((repeat (first | with_reducible refine Blk.drew ?_ | (with_reducible refine blk_new ?_; (first | rfl | (simp; done) | (simp; omega))) | with_reducible refine Blk.alloc ?_ _ | (with_reducible refine HK5 _ _ _ ?_ ?_; rotate_left; (focus omega)))); done)); (focus (first | omega | (simp; omega))))); (refine (fun (N6 : (Value.slice A8 (0 + L.length) c8).ownBlock ≠ some V.heap.size) => ?_) ?_); rotate_left; (focus (refine apart_of hat8 rfl ?_ ?_ <;> (first | omega | (simp; done) | (simp; omega)))); have u0 := B6.frozen 0; have u1 := B6.frozen 1; have u2 := B6.frozen 2; have u3 := B6.frozen 3; have u4 := B6.cell 0; have u5 := B6.cell 1; have u6 := B6.cell 2; have u7 := B6.cell 3; (try simp at u4); (try simp at u5); (try simp at u6); (try simp at u7); have hl6 := B6.lt)); (try (refine (fun (B6 : Blk w8 (V.heap.size + 1) #[.int .i64 0, .int .i64 0, .int .i64 0, .slice none 0 0] 28) => ?_) ?_; rotate_left; (focus ((refine HK8 _ _ _ ?_ ?_); (focus ((repeat (first | with_reducible refine Blk.drew ?_ | (with_reducible refine blk_new ?_; (first | rfl | (simp; done) | (simp; omega))) | with_reducible refine Blk.alloc ?_ _ | (with_reducible refine HK5 _ _ _ ?_ ?_; rotate_left; (focus omega)))); done)); (focus (first | omega | (simp; omega))))); (refine (fun (N6 : (Value.slice A8 (0 + L.length) c8).ownBlock ≠ some (V.heap.size + 1)) => ?_) ?_); rotate_left; (focus (refine apart_of hat8 rfl ?_ ?_ <;> (first | omega | (simp; done) | (simp; omega)))); have u0 := B6.frozen 0; have u1 := B6.frozen 1; have u2 := B6.frozen 2; have u3 := B6.frozen 3; have u4 := B6.cell 0; have u5 := B6.cell 1; have u6 := B6.cell 2; have u7 := B6.cell 3; (try simp at u4); (try simp at u5); (try simp at u6); (try simp at u7); have hl6 := B6.lt)))
        | ((first | (have hh5 := hc5) | fail); refine step_append_copy _ rfl (.tmp 17) (.tmp 19) 26 rfl V.heap.size (w.heap.size + 3) 46 i0 _ 3 24 Tryz.underlying26 hi hz0 hz1 hz2 rfl (by omega) (.slice (some ⟨V.heap.size, 0, none⟩) 0 0) 0 [] ?_ ?_ A1 L.length c1 (rows L) ?_ ?_ (rows_one _) HMX.out HBY.out ?_ ?_; (focus (first | rfl | (simp [go_sem]; done) | fail)); (focus (repeat (first | with_reducible refine own_drew ?_ | with_reducible refine own_empty _ _ (by first | rfl | (simp; done) | (simp; omega)) (by first | omega | (simp; omega)) rfl | with_reducible refine HO5 _ _ _ _ _ _ ?_ (by omega) | with_reducible refine ownD ?_))); (focus (first | rfl | (simp [go_sem]; done) | fail)); (focus (repeat (first | with_reducible exact O1.out | with_reducible refine own_drew ?_ | with_reducible refine HO5 _ _ _ _ _ _ ?_ (by omega) | with_reducible refine ownD ?_))); (focus (first | omega | (simp; omega))); intro v8 w8 ho8 hg8 hat8; obtain ⟨A8, c8, rfl⟩ := own_form ho8; have HB8 : Below V.heap.size w5 w8 := (by refine growB hg8 ?_ hz5 ?_; (repeat (first | exact Below.refl _ _ | assumption | (refine Below.alloc ?_ (by first | omega | (simp; done) | (simp; omega)) _) | (refine Below.setCell ?_ (by first | omega | (simp; done) | (simp; omega)) _) | (refine Below.drew ?_) | (refine Below.drewN ?_ _) | (refine Below.next (by assumption) ?_ (by first | omega | (simp; done) | (simp; omega))))); (intro j hj; simp [Value.ownBlock] at hj; omega)); have hS8 : Box4 w8 sb (.int .i64 p) (.int .i64 s.x) (.int .i64 s.y) (.slice A1 L.length c1) := keepW4 HB8 hS5 hltV; have HK8 := (fun (q : Nat) (cs : Array Value) (t : TypeId) (h : Blk _ q cs t) (hne : q ≠ V.heap.size) => (show Blk w8 q cs t from (hg8.block q h.lt (fun e => hne (Option.some.inj e))).trans h)); (try (refine (fun (B6 : Blk w8 w5.heap.size #[.int .i64 0, .int .i64 0, .int .i64 0, .slice none 0 0] 28) => ?_) ?_; rotate_left; (focus ((refine HK8 _ _ _ ?_ ?_); (focus ((repeat (first | with_reducible refine Blk.drew ?_ | (with_reducible refine blk_new ?_; (first | rfl | (simp; done) | (simp; omega))) | with_reducible refine Blk.alloc ?_ _ | (with_reducible refine HK5 _ _ _ ?_ ?_; rotate_left; (focus omega)))); done)); (focus (first | omega | (simp; omega))))); (refine (fun (N6 : (Value.slice A8 (0 + L.length) c8).ownBlock ≠ some w5.heap.size) => ?_) ?_); rotate_left; (focus (refine apart_of hat8 rfl ?_ ?_ <;> (first | omega | (simp; done) | (simp; omega)))); have u0 := B6.frozen 0; have u1 := B6.frozen 1; have u2 := B6.frozen 2; have u3 := B6.frozen 3; have u4 := B6.cell 0; have u5 := B6.cell 1; have u6 := B6.cell 2; have u7 := B6.cell 3; (try simp at u4); (try simp at u5); (try simp at u6); (try simp at u7); have hl6 := B6.lt)); (try (refine (fun (B6 : Blk w8 (w5.heap.size + 1) #[.int .i64 0, .int .i64 0, .int .i64 0, .slice none 0 0] 28) => ?_) ?_; rotate_left; (focus ((refine HK8 _ _ _ ?_ ?_); (focus ((repeat (first | with_reducible refine Blk.drew ?_ | (with_reducible refine blk_new ?_; (first | rfl | (simp; done) | (simp; omega))) | with_reducible refine Blk.alloc ?_ _ | (with_reducible refine HK5 _ _ _ ?_ ?_; rotate_left; (focus omega)))); done)); (focus (first | omega | (simp; omega))))); (refine (fun (N6 : (Value.slice A8 (0 + L.length) c8).ownBlock ≠ some (w5.heap.size + 1)) => ?_) ?_); rotate_left; (focus (refine apart_of hat8 rfl ?_ ?_ <;> (first | omega | (simp; done) | (simp; omega)))); have u0 := B6.frozen 0; have u1 := B6.frozen 1; have u2 := B6.frozen 2; have u3 := B6.frozen 3; have u4 := B6.cell 0; have u5 := B6.cell 1; have u6 := B6.cell 2; have u7 := B6.cell 3; (try simp at u4); (try simp at u5); (try simp at u6); (try simp at u7); have hl6 := B6.lt)); (try (refine (fun (B6 : Blk w8 (V.heap.size + 1) #[.int .i64 0, .int .i64 0, .int .i64 0, .slice none 0 0] 28) => ?_) ?_; rotate_left; (focus ((refine HK8 _ _ _ ?_ ?_); (focus ((repeat (first | with_reducible refine Blk.drew ?_ | (with_reducible refine blk_new ?_; (first | rfl | (simp; done) | (simp; omega))) | with_reducible refine Blk.alloc ?_ _ | (with_reducible refine HK5 _ _ _ ?_ ?_; rotate_left; (focus omega)))); done)); (focus (first | omega | (simp; omega))))); (refine (fun (N6 : (Value.slice A8 (0 + L.length) c8).ownBlock ≠ some (V.heap.size + 1)) => ?_) ?_); rotate_left; (focus (refine apart_of hat8 rfl ?_ ?_ <;> (first | omega | (simp; done) | (simp; omega)))); have u0 := B6.frozen 0; have u1 := B6.frozen 1; have u2 := B6.frozen 2; have u3 := B6.frozen 3; have u4 := B6.cell 0; have u5 := B6.cell 1; have u6 := B6.cell 2; have u7 := B6.cell 3; (try simp at u4); (try simp at u5); (try simp at u6); (try simp at u7); have hl6 := B6.lt)))
        | ((first | (have hh5 := hc5) | fail); refine step_append_copy _ rfl (.tmp 17) (.tmp 19) 26 rfl V.heap.size (w.heap.size + 3) 46 i0 _ 3 24 Tryz.underlying26 hi hz0 hz1 hz2 rfl (by omega) (.slice (some ⟨(V.heap.size + 1), 0, none⟩) 0 0) 0 [] ?_ ?_ A1 L.length c1 (rows L) ?_ ?_ (rows_one _) HMX.out HBY.out ?_ ?_; (focus (first | rfl | (simp [go_sem]; done) | fail)); (focus (repeat (first | with_reducible refine own_drew ?_ | with_reducible refine own_empty _ _ (by first | rfl | (simp; done) | (simp; omega)) (by first | omega | (simp; omega)) rfl | with_reducible refine HO5 _ _ _ _ _ _ ?_ (by omega) | with_reducible refine ownD ?_))); (focus (first | rfl | (simp [go_sem]; done) | fail)); (focus (repeat (first | with_reducible exact O1.out | with_reducible refine own_drew ?_ | with_reducible refine HO5 _ _ _ _ _ _ ?_ (by omega) | with_reducible refine ownD ?_))); (focus (first | omega | (simp; omega))); intro v8 w8 ho8 hg8 hat8; obtain ⟨A8, c8, rfl⟩ := own_form ho8; have HB8 : Below V.heap.size w5 w8 := (by refine growB hg8 ?_ hz5 ?_; (repeat (first | exact Below.refl _ _ | assumption | (refine Below.alloc ?_ (by first | omega | (simp; done) | (simp; omega)) _) | (refine Below.setCell ?_ (by first | omega | (simp; done) | (simp; omega)) _) | (refine Below.drew ?_) | (refine Below.drewN ?_ _) | (refine Below.next (by assumption) ?_ (by first | omega | (simp; done) | (simp; omega))))); (intro j hj; simp [Value.ownBlock] at hj; omega)); have hS8 : Box4 w8 sb (.int .i64 p) (.int .i64 s.x) (.int .i64 s.y) (.slice A1 L.length c1) := keepW4 HB8 hS5 hltV; have HK8 := (fun (q : Nat) (cs : Array Value) (t : TypeId) (h : Blk _ q cs t) (hne : q ≠ (V.heap.size + 1)) => (show Blk w8 q cs t from (hg8.block q h.lt (fun e => hne (Option.some.inj e))).trans h)); (try (refine (fun (B6 : Blk w8 w5.heap.size #[.int .i64 0, .int .i64 0, .int .i64 0, .slice none 0 0] 28) => ?_) ?_; rotate_left; (focus ((refine HK8 _ _ _ ?_ ?_); (focus ((repeat (first | with_reducible refine Blk.drew ?_ | (with_reducible refine blk_new ?_; (first | rfl | (simp; done) | (simp; omega))) | with_reducible refine Blk.alloc ?_ _ | (with_reducible refine HK5 _ _ _ ?_ ?_; rotate_left; (focus omega)))); done)); (focus (first | omega | (simp; omega))))); (refine (fun (N6 : (Value.slice A8 (0 + L.length) c8).ownBlock ≠ some w5.heap.size) => ?_) ?_); rotate_left; (focus (refine apart_of hat8 rfl ?_ ?_ <;> (first | omega | (simp; done) | (simp; omega)))); have u0 := B6.frozen 0; have u1 := B6.frozen 1; have u2 := B6.frozen 2; have u3 := B6.frozen 3; have u4 := B6.cell 0; have u5 := B6.cell 1; have u6 := B6.cell 2; have u7 := B6.cell 3; (try simp at u4); (try simp at u5); (try simp at u6); (try simp at u7); have hl6 := B6.lt)); (try (refine (fun (B6 : Blk w8 (w5.heap.size + 1) #[.int .i64 0, .int .i64 0, .int .i64 0, .slice none 0 0] 28) => ?_) ?_; rotate_left; (focus ((refine HK8 _ _ _ ?_ ?_); (focus ((repeat (first | with_reducible refine Blk.drew ?_ | (with_reducible refine blk_new ?_; (first | rfl | (simp; done) | (simp; omega))) | with_reducible refine Blk.alloc ?_ _ | (with_reducible refine HK5 _ _ _ ?_ ?_; rotate_left; (focus omega)))); done)); (focus (first | omega | (simp; omega))))); (refine (fun (N6 : (Value.slice A8 (0 + L.length) c8).ownBlock ≠ some (w5.heap.size + 1)) => ?_) ?_); rotate_left; (focus (refine apart_of hat8 rfl ?_ ?_ <;> (first | omega | (simp; done) | (simp; omega)))); have u0 := B6.frozen 0; have u1 := B6.frozen 1; have u2 := B6.frozen 2; have u3 := B6.frozen 3; have u4 := B6.cell 0; have u5 := B6.cell 1; have u6 := B6.cell 2; have u7 := B6.cell 3; (try simp at u4); (try simp at u5); (try simp at u6); (try simp at u7); have hl6 := B6.lt)); (try (refine (fun (B6 : Blk w8 V.heap.size #[.int .i64 0, .int .i64 0, .int .i64 0, .slice none 0 0] 28) => ?_) ?_; rotate_left; (focus ((refine HK8 _ _ _ ?_ ?_); (focus ((repeat (first | with_reducible refine Blk.drew ?_ | (with_reducible refine blk_new ?_; (first | rfl | (simp; done) | (simp; omega))) | with_reducible refine Blk.alloc ?_ _ | (with_reducible refine HK5 _ _ _ ?_ ?_; rotate_left; (focus omega)))); done)); (focus (first | omega | (simp; omega))))); (refine (fun (N6 : (Value.slice A8 (0 + L.length) c8).ownBlock ≠ some V.heap.size) => ?_) ?_); rotate_left; (focus (refine apart_of hat8 rfl ?_ ?_ <;> (first | omega | (simp; done) | (simp; omega)))); have u0 := B6.frozen 0; have u1 := B6.frozen 1; have u2 := B6.frozen 2; have u3 := B6.frozen 3; have u4 := B6.cell 0; have u5 := B6.cell 1; have u6 := B6.cell 2; have u7 := B6.cell 3; (try simp at u4); (try simp at u5); (try simp at u6); (try simp at u7); have hl6 := B6.lt)))
        | (go_at_call 52; (first | (refine (CP.out _ ?_).mono ?_) | fail); (focus (repeat (first | with_reducible exact C1.out | with_reducible refine cur_drew ?_ | with_reducible refine Cur.alloc ?_ _))); rintro e w5 ⟨q, rfl, q0, q1, hc5, ho5⟩; have hS5 : Box4 w5 sb (.int .i64 p) (.int .i64 s.x) (.int .i64 s.y) (.slice A1 L.length c1) := keepB4 ho5 (by repeat (first | with_reducible exact CS.out | with_reducible refine keepE4 ?_ | with_reducible refine keepD4 ?_)) hzb; have HO5 := (fun (base : Nat) (e : TypeId) (sz : Nat) (v : Value) (n : Nat) (xs : List Value) (h : World.ownsRow _ base e sz v n xs) (hb : w.heap.size + 2 < base) => ho5.own h hb); have HK5 := (fun (q : Nat) (cs : Array Value) (t : TypeId) (h : Blk _ q cs t) (hne : q ≠ w.heap.size + 2) => ho5.blk h hne); have HV5 : Oth (w.heap.size + 2) V w5 := Oth.trans (by repeat (first | with_reducible exact Oth.refl _ _ | with_reducible refine Oth.drew ?_ | with_reducible refine Oth.alloc ?_ _)) ho5; have hz5 := HV5.size; have hz5x := ho5.size; (try simp at hz5x)))
    all_goals
      rename_i hHeld
      clear hHeld
      go_wp2_with fail
      go_meet
      first
        | exact ⟨_, _, _, _, rfl, Sw6.mkC hsb hlt1 OL.out (Sw6.mkA hsb hlt1 B1.out Z1.out Y1.out S1.out O1.out OL.out HV5 hc5 HB8 ho8 (by omega))⟩
        | exact ⟨_, _, _, _, rfl, Sw6.mkD hsb hlt1 OL.out (by omega) N6 B6 (Sw6.mkA hsb hlt1 B1.out Z1.out Y1.out S1.out O1.out OL.out HV5 hc5 HB8 ho8 (by omega))⟩
  case rest =>
    obtain ⟨b6, q, A8, c8, rfl, hS6⟩ := hcut
    have S6 := Lib.hid hS6
    have HL := Lib.hid hl
    clear O1 OL C1 B1 Z1 Y1 S1 CS hS6 hsb hltV
    have k3 : wc.cell? ⟨b6, 3, none⟩ = some (.slice A8 L.length c8) := (Blk.cell S6.out.b6x 3).trans rfl
    have hlb := Blk.lt S6.out.b6x
    by_cases h0 : 0 < L.length
    rotate_left
    ·
      obtain rfl : L = [] := List.length_eq_zero_iff.1 (by omega)
      clear k3 h0
      have zk := Lib.hid (S6.out.z)
      have yk := Lib.hid (S6.out.y)
      have hbb := S6.out.hb
      have s0 : wc.cell? ⟨sb, 0, none⟩ = some (.int .i64 p) := (Blk.cell S6.out.sbx 0).trans rfl
      have s1 : wc.cell? ⟨sb, 1, none⟩ = some (.int .i64 s.x) := (Blk.cell S6.out.sbx 1).trans rfl
      have s2 : wc.cell? ⟨sb, 2, none⟩ = some (.int .i64 s.y) := (Blk.cell S6.out.sbx 2).trans rfl
      have s3 : wc.cell? ⟨sb, 3, none⟩ = some (.slice A1 0 c1) := (Blk.cell S6.out.sbx 3).trans rfl
      have t0 : wc.cell? ⟨b6, 0, none⟩ = some (.int .i64 q) := (Blk.cell (S6.out.b6x) 0).trans rfl
      have t1 : wc.cell? ⟨b6, 1, none⟩ = some (.int .i64 s.x) := (Blk.cell (S6.out.b6x) 1).trans rfl
      have t2 : wc.cell? ⟨b6, 2, none⟩ = some (.int .i64 s.y) := (Blk.cell (S6.out.b6x) 2).trans rfl
      have t3 : wc.cell? ⟨b6, 3, none⟩ = some (.slice A8 0 c8) := (Blk.cell (S6.out.b6x) 3).trans rfl
      have hlb := Blk.lt (S6.out.b6x)
      have hls := Blk.lt S6.out.sbx
      have z0 : wc.cell? ⟨w.heap.size, 0, none⟩ = some (.int .i64 0) := (Blk.cell zk.out 0).trans rfl
      have zf0 := Blk.frozen zk.out 0
      have z1 : wc.cell? ⟨w.heap.size, 1, none⟩ = some (.int .i64 0) := (Blk.cell zk.out 1).trans rfl
      have zf1 := Blk.frozen zk.out 1
      have z2 : wc.cell? ⟨w.heap.size, 2, none⟩ = some (.int .i64 0) := (Blk.cell zk.out 2).trans rfl
      have zf2 := Blk.frozen zk.out 2
      have z3 : wc.cell? ⟨w.heap.size, 3, none⟩ = some (.slice none 0 0) := (Blk.cell zk.out 3).trans rfl
      have zf3 := Blk.frozen zk.out 3
      have y0 : wc.cell? ⟨w.heap.size + 1, 0, none⟩ = some (.int .i64 0) := (Blk.cell yk.out 0).trans rfl
      have yf0 := Blk.frozen yk.out 0
      have y1 : wc.cell? ⟨w.heap.size + 1, 1, none⟩ = some (.int .i64 0) := (Blk.cell yk.out 1).trans rfl
      have yf1 := Blk.frozen yk.out 1
      have y2 : wc.cell? ⟨w.heap.size + 1, 2, none⟩ = some (.int .i64 0) := (Blk.cell yk.out 2).trans rfl
      have yf2 := Blk.frozen yk.out 2
      have y3 : wc.cell? ⟨w.heap.size + 1, 3, none⟩ = some (.slice none 0 0) := (Blk.cell yk.out 3).trans rfl
      have yf3 := Blk.frozen yk.out 3
      have hlz := Blk.lt zk.out
      have hly := Blk.lt yk.out
      have o1_ : wc.ownsRow (w.heap.size + 3) 46 3 (.slice A1 0 c1) 0 (rows []) := S6.out.o1
      have o2_ : wc.ownsRow (w.heap.size + 3) 46 3 (.slice A8 0 c8) 0 (rows []) := S6.out.o8
      obtain ⟨p1, p2, p3, p4, p5⟩ := putZY (v0 := .int .i64 p) (v1 := .int .i64 s.x) (v2 := .int .i64 s.y) (v3 := .slice A1 0 c1) (u0 := .int .i64 q) (u1 := .int .i64 s.x) (u2 := .int .i64 s.y) (u3 := .slice A8 0 c8) zk.out yk.out S6.out.bel o1_ o2_
      have P1 := Lib.hid (own_drew p1)
      have P2 := Lib.hid (own_drew p2)
      have P3 := Lib.hid (Below.drew p3)
      have P4 := Lib.hid (Blk.drew p4)
      have P5 := Lib.hid (Blk.drew p5)
      clear p1 p2 p3 p4 p5 o1_ o2_
      have K8 := Lib.hid (show wc.cell? ⟨sb, 0, none⟩ = some (.int .i64 p) ∧ wc.cell? ⟨sb, 1, none⟩ = some (.int .i64 s.x) ∧ wc.cell? ⟨sb, 2, none⟩ = some (.int .i64 s.y) ∧ wc.cell? ⟨sb, 3, none⟩ = some (.slice A1 0 c1) ∧ wc.cell? ⟨b6, 0, none⟩ = some (.int .i64 q) ∧ wc.cell? ⟨b6, 1, none⟩ = some (.int .i64 s.x) ∧ wc.cell? ⟨b6, 2, none⟩ = some (.int .i64 s.y) ∧ wc.cell? ⟨b6, 3, none⟩ = some (.slice A8 0 c8) from ⟨s0, s1, s2, s3, t0, t1, t2, t3⟩)
      have hza : w.heap.size ≠ sb := by omega
      have hzb : w.heap.size ≠ b6 := by omega
      have hya : w.heap.size + 1 ≠ sb := by omega
      have hyb : w.heap.size + 1 ≠ b6 := by omega
      go_upto_region 13 with (fail)
      go_region_held3 (fun wx => wx.cell? ⟨sb, 0, none⟩ = some (.int .i64 p) ∧ wx.cell? ⟨sb, 1, none⟩ = some (.int .i64 s.x) ∧ wx.cell? ⟨sb, 2, none⟩ = some (.int .i64 s.y) ∧ wx.cell? ⟨sb, 3, none⟩ = some (.slice A1 0 c1) ∧ wx.cell? ⟨b6, 0, none⟩ = some (.int .i64 q) ∧ wx.cell? ⟨b6, 1, none⟩ = some (.int .i64 s.x) ∧ wx.cell? ⟨b6, 2, none⟩ = some (.int .i64 s.y) ∧ wx.cell? ⟨b6, 3, none⟩ = some (.slice A8 0 c8))
        (repeat (first | with_reducible exact K8.out | with_reducible refine keepE8 ?_ | with_reducible refine keepP8 ?_ hza hzb | with_reducible refine keepP8 ?_ hya hyb))
        (fail)
      all_goals go_wp2_with fail
      generalize (((((((((wc.setCell ⟨w.heap.size, 0, none⟩ (.int .i64 p)).setCell ⟨w.heap.size, 1, none⟩ (.int .i64 s.x)).setCell ⟨w.heap.size, 2, none⟩ (.int .i64 s.y)).setCell ⟨w.heap.size, 3, none⟩ (.slice A1 0 c1)).setCell ⟨w.heap.size + 1, 0, none⟩ (.int .i64 q)).setCell ⟨w.heap.size + 1, 1, none⟩ (.int .i64 s.x)).setCell ⟨w.heap.size + 1, 2, none⟩ (.int .i64 s.y)).setCell ⟨w.heap.size + 1, 3, none⟩ (.slice A8 0 c8)).drew) = WF at *
      have C0 : WF.cell? ⟨w.heap.size, 0, none⟩ = some (.int .i64 p) := (P4.out.cell 0).trans rfl
      have C1 : WF.cell? ⟨w.heap.size, 1, none⟩ = some (.int .i64 s.x) := (P4.out.cell 1).trans rfl
      have C2 : WF.cell? ⟨w.heap.size, 2, none⟩ = some (.int .i64 s.y) := (P4.out.cell 2).trans rfl
      have C3 : WF.cell? ⟨w.heap.size, 3, none⟩ = some (.slice A1 0 c1) := (P4.out.cell 3).trans rfl
      have D0 : WF.cell? ⟨w.heap.size + 1, 0, none⟩ = some (.int .i64 q) := (P5.out.cell 0).trans rfl
      have D1 : WF.cell? ⟨w.heap.size + 1, 1, none⟩ = some (.int .i64 s.x) := (P5.out.cell 1).trans rfl
      have D2 : WF.cell? ⟨w.heap.size + 1, 2, none⟩ = some (.int .i64 s.y) := (P5.out.cell 2).trans rfl
      have D3 : WF.cell? ⟨w.heap.size + 1, 3, none⟩ = some (.slice A8 0 c8) := (P5.out.cell 3).trans rfl
      refine bodyPost_ret (v := .tuple #[.agg #[.int .i64 p, .int .i64 s.x, .int .i64 s.y, .slice A1 0 c1], .agg #[.int .i64 q, .int .i64 s.x, .int .i64 s.y, .slice A8 0 c8]]) (by simp [results, Tryz.results23, go_sem, C0, C1, C2, C3, D0, D1, D2, D3]) rfl ?_
      exact ⟨p, s, A1, c1, [], q, s, A8, c8, [], rfl, Mem.of_own P1.out, HL.out, Mem.of_own P2.out, HL.out, P3.out⟩
    ·
      obtain ⟨g8, rfl, _, _⟩ := own_addr S6.out.o8 h0
      have e0 : (0 : Int) < (L.length : Int) := by omega
      go_upto_region 5 with (fail)
      go_upto_region 6 with (fail)
      go_wp2_with fail
      refine (pick_any (w.heap.size + 2) 802 4 _ 3 S6.out.cur (by omega) (by omega) (by omega) (by omega)).mono ?_
      rintro e w7 ⟨r, rfl, r0, r1, hc7, ho7⟩
      have S7 := Lib.hid (S6.out.next ho7 hc7)
      clear S6 k3 hlb hc7 ho7
      have k3 : w7.cell? ⟨b6, 3, none⟩ = some (.slice (some ⟨g8, 0, none⟩) L.length c8) := (Blk.cell S7.out.b6x 3).trans rfl
      have kf3 := Blk.frozen S7.out.b6x 3
      have hlb := Blk.lt S7.out.b6x
      have hb6g : b6 ≠ w.heap.size + 2 := by have := S7.out.hb; omega
      have hb68 : g8 ≠ b6 := fun e => S7.out.e8b (by rw [e]; rfl)
      by_cases hr0 : r = 0
      ·
        subst hr0
        have HK3 := Lib.hid k3
        have HK0 := Lib.hid e0
        have CP1 := Lib.hid (fun (w' : World) (h : Cur w' (w.heap.size + 2) (802 + 2)) => pick_any (w.heap.size + 2) (802 + 2) (L.length : Int) w' ((L.length : Int) - 1) h (by omega) (by have := HL.out; omega) (by omega) (by omega))
        have CP2 := Lib.hid (fun (w' : World) (h : Cur w' (w.heap.size + 2) (802 + 2 + 2)) => pick_any (w.heap.size + 2) (802 + 2 + 2) 9 w' 8 h (by omega) (by omega) (by omega) (by omega))
        go_upto_region 8 with (fail)
        go_region_held3 (fun wx => wx.cell? ⟨b6, 3, none⟩ = some (.slice (some ⟨g8, 0, none⟩) L.length c8))
          (repeat (first | with_reducible exact HK3.out | with_reducible exact hS6 | with_reducible exact hS5 | with_reducible refine keepE1 ?_ | with_reducible refine keepD1 ?_ | with_reducible refine keepP1 ?_ hb68))
          (first
            | (go_at_call 52; (first | (have hm5 := hc5) | fail); (first | (refine (CP2.out _ ?_).mono ?_) | fail); (focus (repeat (first | with_reducible exact hc5 | with_reducible refine cur_drew ?_ | with_reducible refine Cur.alloc ?_ _))); rintro e w6 ⟨v, rfl, v0, v1, hc6, ho6⟩; have hS6 : w6.cell? ⟨b6, 3, none⟩ = some (.slice (some ⟨g8, 0, none⟩) L.length c8) := keepB1 ho6 (by repeat (first | with_reducible exact hS5 | with_reducible refine keepE1 ?_ | with_reducible refine keepD1 ?_)) hb6g; have HV6 : Oth (w.heap.size + 2) w5 w6 := Oth.trans (by repeat (first | with_reducible exact Oth.refl _ _ | with_reducible refine Oth.drew ?_ | with_reducible refine Oth.alloc ?_ _)) ho6; have S9 := Lib.hid ((S7.out.next HV5 hc5).next HV6 hc6); obtain ⟨bq, oq, eq_, x0_, x1_, x2_⟩ := (Mem.of_own S9.out.o8).row hr; (cases eq_); (rw [Nat.zero_add] at x0_); have fz := S9.out.o8.frozenAt (i * 3); have hgl := (S9.out.o8.lt g8 rfl).2)
            | (go_at_call 52; (first | (refine (CP1.out _ ?_).mono ?_) | fail); (focus (repeat (first | with_reducible exact S7.out.cur | with_reducible refine cur_drew ?_ | with_reducible refine Cur.alloc ?_ _))); rintro e w5 ⟨i, rfl, i0, i1, hc5, ho5⟩; obtain ⟨i, rfl⟩ := Int.eq_ofNat_of_zero_le i0; have hi1 : (i : Int) < (L.length : Int) := (by omega); obtain ⟨t, hr⟩ := some_of_lt (L := L) (k := i) (by omega); have hS5 : w5.cell? ⟨b6, 3, none⟩ = some (.slice (some ⟨g8, 0, none⟩) L.length c8) := keepB1 ho5 (by repeat (first | with_reducible exact HK3.out | with_reducible refine keepE1 ?_ | with_reducible refine keepD1 ?_)) hb6g; have HV5 : Oth (w.heap.size + 2) w7 w5 := Oth.trans (by repeat (first | with_reducible exact Oth.refl _ _ | with_reducible refine Oth.drew ?_ | with_reducible refine Oth.alloc ?_ _)) ho5))
        rename_i hHeld
        clear hHeld
        obtain ⟨N, hN, hS10⟩ := S9.out.putR hr (IntKind.i64.wrap (1 + v))
        have S10 := Lib.hid hS10
        have HN := Lib.hid hN
        clear hS10 hN S9 x0_ x1_ x2_ fz hgl hS6 hS5 ho6 ho5 hc6 hc5 hm5 k3 kf3 hlb HV5 HV6 S7 HK3
        generalize (w6.setCell ⟨g8, i * 3, none⟩ (.int .i64 (IntKind.i64.wrap (1 + v)))) = w10 at *
        have zk := Lib.hid (S10.out.z)
        have yk := Lib.hid (S10.out.y)
        have hbb := S10.out.hb
        have s0 : w10.cell? ⟨sb, 0, none⟩ = some (.int .i64 p) := (Blk.cell S10.out.sbx 0).trans rfl
        have s1 : w10.cell? ⟨sb, 1, none⟩ = some (.int .i64 s.x) := (Blk.cell S10.out.sbx 1).trans rfl
        have s2 : w10.cell? ⟨sb, 2, none⟩ = some (.int .i64 s.y) := (Blk.cell S10.out.sbx 2).trans rfl
        have s3 : w10.cell? ⟨sb, 3, none⟩ = some (.slice A1 L.length c1) := (Blk.cell S10.out.sbx 3).trans rfl
        have t0 : w10.cell? ⟨b6, 0, none⟩ = some (.int .i64 q) := (Blk.cell (S10.out.b6x) 0).trans rfl
        have t1 : w10.cell? ⟨b6, 1, none⟩ = some (.int .i64 s.x) := (Blk.cell (S10.out.b6x) 1).trans rfl
        have t2 : w10.cell? ⟨b6, 2, none⟩ = some (.int .i64 s.y) := (Blk.cell (S10.out.b6x) 2).trans rfl
        have t3 : w10.cell? ⟨b6, 3, none⟩ = some (.slice (some ⟨g8, 0, none⟩) N.length c8) := (Blk.cell (S10.out.b6x) 3).trans rfl
        have hlb := Blk.lt (S10.out.b6x)
        have hls := Blk.lt S10.out.sbx
        have z0 : w10.cell? ⟨w.heap.size, 0, none⟩ = some (.int .i64 0) := (Blk.cell zk.out 0).trans rfl
        have zf0 := Blk.frozen zk.out 0
        have z1 : w10.cell? ⟨w.heap.size, 1, none⟩ = some (.int .i64 0) := (Blk.cell zk.out 1).trans rfl
        have zf1 := Blk.frozen zk.out 1
        have z2 : w10.cell? ⟨w.heap.size, 2, none⟩ = some (.int .i64 0) := (Blk.cell zk.out 2).trans rfl
        have zf2 := Blk.frozen zk.out 2
        have z3 : w10.cell? ⟨w.heap.size, 3, none⟩ = some (.slice none 0 0) := (Blk.cell zk.out 3).trans rfl
        have zf3 := Blk.frozen zk.out 3
        have y0 : w10.cell? ⟨w.heap.size + 1, 0, none⟩ = some (.int .i64 0) := (Blk.cell yk.out 0).trans rfl
        have yf0 := Blk.frozen yk.out 0
        have y1 : w10.cell? ⟨w.heap.size + 1, 1, none⟩ = some (.int .i64 0) := (Blk.cell yk.out 1).trans rfl
        have yf1 := Blk.frozen yk.out 1
        have y2 : w10.cell? ⟨w.heap.size + 1, 2, none⟩ = some (.int .i64 0) := (Blk.cell yk.out 2).trans rfl
        have yf2 := Blk.frozen yk.out 2
        have y3 : w10.cell? ⟨w.heap.size + 1, 3, none⟩ = some (.slice none 0 0) := (Blk.cell yk.out 3).trans rfl
        have yf3 := Blk.frozen yk.out 3
        have hlz := Blk.lt zk.out
        have hly := Blk.lt yk.out
        have o1_ : w10.ownsRow (w.heap.size + 3) 46 3 (.slice A1 L.length c1) L.length (rows L) := S10.out.o1
        have o2_ : w10.ownsRow (w.heap.size + 3) 46 3 (.slice (some ⟨g8, 0, none⟩) N.length c8) N.length (rows N) := S10.out.o8
        obtain ⟨p1, p2, p3, p4, p5⟩ := putZY (v0 := .int .i64 p) (v1 := .int .i64 s.x) (v2 := .int .i64 s.y) (v3 := .slice A1 L.length c1) (u0 := .int .i64 q) (u1 := .int .i64 s.x) (u2 := .int .i64 s.y) (u3 := .slice (some ⟨g8, 0, none⟩) N.length c8) zk.out yk.out S10.out.bel o1_ o2_
        have P1 := Lib.hid (own_drew p1)
        have P2 := Lib.hid (own_drew p2)
        have P3 := Lib.hid (Below.drew p3)
        have P4 := Lib.hid (Blk.drew p4)
        have P5 := Lib.hid (Blk.drew p5)
        clear p1 p2 p3 p4 p5 o1_ o2_
        have K8 := Lib.hid (show w10.cell? ⟨sb, 0, none⟩ = some (.int .i64 p) ∧ w10.cell? ⟨sb, 1, none⟩ = some (.int .i64 s.x) ∧ w10.cell? ⟨sb, 2, none⟩ = some (.int .i64 s.y) ∧ w10.cell? ⟨sb, 3, none⟩ = some (.slice A1 L.length c1) ∧ w10.cell? ⟨b6, 0, none⟩ = some (.int .i64 q) ∧ w10.cell? ⟨b6, 1, none⟩ = some (.int .i64 s.x) ∧ w10.cell? ⟨b6, 2, none⟩ = some (.int .i64 s.y) ∧ w10.cell? ⟨b6, 3, none⟩ = some (.slice (some ⟨g8, 0, none⟩) N.length c8) from ⟨s0, s1, s2, s3, t0, t1, t2, t3⟩)
        have hza : w.heap.size ≠ sb := by omega
        have hzb : w.heap.size ≠ b6 := by omega
        have hya : w.heap.size + 1 ≠ sb := by omega
        have hyb : w.heap.size + 1 ≠ b6 := by omega
        go_upto_region 13 with (fail)
        go_region_held3 (fun wx => wx.cell? ⟨sb, 0, none⟩ = some (.int .i64 p) ∧ wx.cell? ⟨sb, 1, none⟩ = some (.int .i64 s.x) ∧ wx.cell? ⟨sb, 2, none⟩ = some (.int .i64 s.y) ∧ wx.cell? ⟨sb, 3, none⟩ = some (.slice A1 L.length c1) ∧ wx.cell? ⟨b6, 0, none⟩ = some (.int .i64 q) ∧ wx.cell? ⟨b6, 1, none⟩ = some (.int .i64 s.x) ∧ wx.cell? ⟨b6, 2, none⟩ = some (.int .i64 s.y) ∧ wx.cell? ⟨b6, 3, none⟩ = some (.slice (some ⟨g8, 0, none⟩) N.length c8))
          (repeat (first | with_reducible exact K8.out | with_reducible refine keepE8 ?_ | with_reducible refine keepP8 ?_ hza hzb | with_reducible refine keepP8 ?_ hya hyb))
          (fail)
        all_goals go_wp2_with fail
        generalize (((((((((w10.setCell ⟨w.heap.size, 0, none⟩ (.int .i64 p)).setCell ⟨w.heap.size, 1, none⟩ (.int .i64 s.x)).setCell ⟨w.heap.size, 2, none⟩ (.int .i64 s.y)).setCell ⟨w.heap.size, 3, none⟩ (.slice A1 L.length c1)).setCell ⟨w.heap.size + 1, 0, none⟩ (.int .i64 q)).setCell ⟨w.heap.size + 1, 1, none⟩ (.int .i64 s.x)).setCell ⟨w.heap.size + 1, 2, none⟩ (.int .i64 s.y)).setCell ⟨w.heap.size + 1, 3, none⟩ (.slice (some ⟨g8, 0, none⟩) N.length c8)).drew) = WF at *
        have C0 : WF.cell? ⟨w.heap.size, 0, none⟩ = some (.int .i64 p) := (P4.out.cell 0).trans rfl
        have C1 : WF.cell? ⟨w.heap.size, 1, none⟩ = some (.int .i64 s.x) := (P4.out.cell 1).trans rfl
        have C2 : WF.cell? ⟨w.heap.size, 2, none⟩ = some (.int .i64 s.y) := (P4.out.cell 2).trans rfl
        have C3 : WF.cell? ⟨w.heap.size, 3, none⟩ = some (.slice A1 L.length c1) := (P4.out.cell 3).trans rfl
        have D0 : WF.cell? ⟨w.heap.size + 1, 0, none⟩ = some (.int .i64 q) := (P5.out.cell 0).trans rfl
        have D1 : WF.cell? ⟨w.heap.size + 1, 1, none⟩ = some (.int .i64 s.x) := (P5.out.cell 1).trans rfl
        have D2 : WF.cell? ⟨w.heap.size + 1, 2, none⟩ = some (.int .i64 s.y) := (P5.out.cell 2).trans rfl
        have D3 : WF.cell? ⟨w.heap.size + 1, 3, none⟩ = some (.slice (some ⟨g8, 0, none⟩) N.length c8) := (P5.out.cell 3).trans rfl
        refine bodyPost_ret (v := .tuple #[.agg #[.int .i64 p, .int .i64 s.x, .int .i64 s.y, .slice A1 L.length c1], .agg #[.int .i64 q, .int .i64 s.x, .int .i64 s.y, .slice (some ⟨g8, 0, none⟩) N.length c8]]) (by simp [results, Tryz.results23, go_sem, C0, C1, C2, C3, D0, D1, D2, D3]) rfl ?_
        exact ⟨p, s, A1, c1, L, q, s, (some ⟨g8, 0, none⟩), c8, N, rfl, Mem.of_own P1.out, HL.out, Mem.of_own P2.out, by have := HL.out; have := HN.out; omega, P3.out⟩
      have q0 : ((r : Int) == 0) = false := beq_eq_false_iff_ne.2 hr0
      clear hr0
      by_cases hr1 : r = 1
      ·
        subst hr1
        have e1 : (L.length : Int) ≤ 9 := by have := HL.out; omega
        have CP1 := Lib.hid (fun (w' : World) (h : Cur w' (w.heap.size + 2) (802 + 2)) => pick_any (w.heap.size + 2) (802 + 2) (L.length : Int) w' ((L.length : Int) - 1) h (by omega) (by omega) (by omega) (by omega))
        have HC8 := Lib.hid (show L.length ≤ c8 from own_capM S7.out.o8)
        have K3 := Lib.hid k3
        go_upto_region 10 with (fail)
        go_region_law ((first | (go_simp; go_at_call 52; (first | (refine (CP1.out _ ?_).mono ?_) | fail); (focus (repeat (first | with_reducible exact S7.out.cur | with_reducible refine cur_drew ?_ | with_reducible refine Cur.alloc ?_ _))); rintro e w5 ⟨i, rfl, i0, i1, hc5, ho5⟩; obtain ⟨i, rfl⟩ := Int.eq_ofNat_of_zero_le i0; have hi1 : (i : Int) < (L.length : Int) := (by omega); have hi2 : (i : Int) ≤ (c8 : Int) := (by have := HC8.out; omega); have HV5 : Oth (w.heap.size + 2) w7 w5 := Oth.trans (by repeat (first | with_reducible exact Oth.refl _ _ | with_reducible refine Oth.drew ?_ | with_reducible refine Oth.alloc ?_ _)) ho5; have S9 := Lib.hid (S7.out.next HV5 hc5); have k5 : w5.cell? ⟨b6, 3, none⟩ = some (.slice (some ⟨g8, 0, none⟩) L.length c8) := (Blk.cell S9.out.b6x 3).trans rfl; have kf5 := Blk.frozen S9.out.b6x 3; have hl5 := Blk.lt S9.out.b6x)))
        all_goals
          have S10 := Lib.hid (S9.out.cutB (i := i))
          have HT := Lib.hid (show (L.take i).length = i by rw [List.length_take]; omega)
          clear S9 k5 kf5 hl5 ho5 hc5 k3 kf3 hlb HV5 S7 K3 CP1 HC8 e1 hi2 i0
          generalize (w5.setCell ⟨b6, 3, none⟩ (.slice (some ⟨g8, 0, none⟩) i c8)) = w10 at *
          have zk := Lib.hid (S10.out.z)
          have yk := Lib.hid (S10.out.y)
          have hbb := S10.out.hb
          have s0 : w10.cell? ⟨sb, 0, none⟩ = some (.int .i64 p) := (Blk.cell S10.out.sbx 0).trans rfl
          have s1 : w10.cell? ⟨sb, 1, none⟩ = some (.int .i64 s.x) := (Blk.cell S10.out.sbx 1).trans rfl
          have s2 : w10.cell? ⟨sb, 2, none⟩ = some (.int .i64 s.y) := (Blk.cell S10.out.sbx 2).trans rfl
          have s3 : w10.cell? ⟨sb, 3, none⟩ = some (.slice A1 L.length c1) := (Blk.cell S10.out.sbx 3).trans rfl
          have t0 : w10.cell? ⟨b6, 0, none⟩ = some (.int .i64 q) := (Blk.cell (S10.out.b6x) 0).trans rfl
          have t1 : w10.cell? ⟨b6, 1, none⟩ = some (.int .i64 s.x) := (Blk.cell (S10.out.b6x) 1).trans rfl
          have t2 : w10.cell? ⟨b6, 2, none⟩ = some (.int .i64 s.y) := (Blk.cell (S10.out.b6x) 2).trans rfl
          have t3 : w10.cell? ⟨b6, 3, none⟩ = some (.slice (some ⟨g8, 0, none⟩) i c8) := (Blk.cell (S10.out.b6x) 3).trans rfl
          have hlb := Blk.lt (S10.out.b6x)
          have hls := Blk.lt S10.out.sbx
          have z0 : w10.cell? ⟨w.heap.size, 0, none⟩ = some (.int .i64 0) := (Blk.cell zk.out 0).trans rfl
          have zf0 := Blk.frozen zk.out 0
          have z1 : w10.cell? ⟨w.heap.size, 1, none⟩ = some (.int .i64 0) := (Blk.cell zk.out 1).trans rfl
          have zf1 := Blk.frozen zk.out 1
          have z2 : w10.cell? ⟨w.heap.size, 2, none⟩ = some (.int .i64 0) := (Blk.cell zk.out 2).trans rfl
          have zf2 := Blk.frozen zk.out 2
          have z3 : w10.cell? ⟨w.heap.size, 3, none⟩ = some (.slice none 0 0) := (Blk.cell zk.out 3).trans rfl
          have zf3 := Blk.frozen zk.out 3
          have y0 : w10.cell? ⟨w.heap.size + 1, 0, none⟩ = some (.int .i64 0) := (Blk.cell yk.out 0).trans rfl
          have yf0 := Blk.frozen yk.out 0
          have y1 : w10.cell? ⟨w.heap.size + 1, 1, none⟩ = some (.int .i64 0) := (Blk.cell yk.out 1).trans rfl
          have yf1 := Blk.frozen yk.out 1
          have y2 : w10.cell? ⟨w.heap.size + 1, 2, none⟩ = some (.int .i64 0) := (Blk.cell yk.out 2).trans rfl
          have yf2 := Blk.frozen yk.out 2
          have y3 : w10.cell? ⟨w.heap.size + 1, 3, none⟩ = some (.slice none 0 0) := (Blk.cell yk.out 3).trans rfl
          have yf3 := Blk.frozen yk.out 3
          have hlz := Blk.lt zk.out
          have hly := Blk.lt yk.out
          have o1_ : w10.ownsRow (w.heap.size + 3) 46 3 (.slice A1 L.length c1) L.length (rows L) := S10.out.o1
          have o2_ : w10.ownsRow (w.heap.size + 3) 46 3 (.slice (some ⟨g8, 0, none⟩) L.length c8) L.length (rows L) := S10.out.o8
          obtain ⟨p1, p2, p3, p4, p5⟩ := putZY (v0 := .int .i64 p) (v1 := .int .i64 s.x) (v2 := .int .i64 s.y) (v3 := .slice A1 L.length c1) (u0 := .int .i64 q) (u1 := .int .i64 s.x) (u2 := .int .i64 s.y) (u3 := .slice (some ⟨g8, 0, none⟩) i c8) zk.out yk.out S10.out.bel o1_ o2_
          have P1 := Lib.hid (own_drew p1)
          have P2 := Lib.hid (own_drew p2)
          have P3 := Lib.hid (Below.drew p3)
          have P4 := Lib.hid (Blk.drew p4)
          have P5 := Lib.hid (Blk.drew p5)
          clear p1 p2 p3 p4 p5 o1_ o2_
          have K8 := Lib.hid (show w10.cell? ⟨sb, 0, none⟩ = some (.int .i64 p) ∧ w10.cell? ⟨sb, 1, none⟩ = some (.int .i64 s.x) ∧ w10.cell? ⟨sb, 2, none⟩ = some (.int .i64 s.y) ∧ w10.cell? ⟨sb, 3, none⟩ = some (.slice A1 L.length c1) ∧ w10.cell? ⟨b6, 0, none⟩ = some (.int .i64 q) ∧ w10.cell? ⟨b6, 1, none⟩ = some (.int .i64 s.x) ∧ w10.cell? ⟨b6, 2, none⟩ = some (.int .i64 s.y) ∧ w10.cell? ⟨b6, 3, none⟩ = some (.slice (some ⟨g8, 0, none⟩) i c8) from ⟨s0, s1, s2, s3, t0, t1, t2, t3⟩)
          have hza : w.heap.size ≠ sb := by omega
          have hzb : w.heap.size ≠ b6 := by omega
          have hya : w.heap.size + 1 ≠ sb := by omega
          have hyb : w.heap.size + 1 ≠ b6 := by omega
          go_upto_region 13 with (fail)
          go_region_held3 (fun wx => wx.cell? ⟨sb, 0, none⟩ = some (.int .i64 p) ∧ wx.cell? ⟨sb, 1, none⟩ = some (.int .i64 s.x) ∧ wx.cell? ⟨sb, 2, none⟩ = some (.int .i64 s.y) ∧ wx.cell? ⟨sb, 3, none⟩ = some (.slice A1 L.length c1) ∧ wx.cell? ⟨b6, 0, none⟩ = some (.int .i64 q) ∧ wx.cell? ⟨b6, 1, none⟩ = some (.int .i64 s.x) ∧ wx.cell? ⟨b6, 2, none⟩ = some (.int .i64 s.y) ∧ wx.cell? ⟨b6, 3, none⟩ = some (.slice (some ⟨g8, 0, none⟩) i c8))
            (repeat (first | with_reducible exact K8.out | with_reducible refine keepE8 ?_ | with_reducible refine keepP8 ?_ hza hzb | with_reducible refine keepP8 ?_ hya hyb))
            (fail)
          all_goals go_wp2_with fail
          generalize (((((((((w10.setCell ⟨w.heap.size, 0, none⟩ (.int .i64 p)).setCell ⟨w.heap.size, 1, none⟩ (.int .i64 s.x)).setCell ⟨w.heap.size, 2, none⟩ (.int .i64 s.y)).setCell ⟨w.heap.size, 3, none⟩ (.slice A1 L.length c1)).setCell ⟨w.heap.size + 1, 0, none⟩ (.int .i64 q)).setCell ⟨w.heap.size + 1, 1, none⟩ (.int .i64 s.x)).setCell ⟨w.heap.size + 1, 2, none⟩ (.int .i64 s.y)).setCell ⟨w.heap.size + 1, 3, none⟩ (.slice (some ⟨g8, 0, none⟩) i c8)).drew) = WF at *
          have C0 : WF.cell? ⟨w.heap.size, 0, none⟩ = some (.int .i64 p) := (P4.out.cell 0).trans rfl
          have C1 : WF.cell? ⟨w.heap.size, 1, none⟩ = some (.int .i64 s.x) := (P4.out.cell 1).trans rfl
          have C2 : WF.cell? ⟨w.heap.size, 2, none⟩ = some (.int .i64 s.y) := (P4.out.cell 2).trans rfl
          have C3 : WF.cell? ⟨w.heap.size, 3, none⟩ = some (.slice A1 L.length c1) := (P4.out.cell 3).trans rfl
          have D0 : WF.cell? ⟨w.heap.size + 1, 0, none⟩ = some (.int .i64 q) := (P5.out.cell 0).trans rfl
          have D1 : WF.cell? ⟨w.heap.size + 1, 1, none⟩ = some (.int .i64 s.x) := (P5.out.cell 1).trans rfl
          have D2 : WF.cell? ⟨w.heap.size + 1, 2, none⟩ = some (.int .i64 s.y) := (P5.out.cell 2).trans rfl
          have D3 : WF.cell? ⟨w.heap.size + 1, 3, none⟩ = some (.slice (some ⟨g8, 0, none⟩) i c8) := (P5.out.cell 3).trans rfl
          refine bodyPost_ret (v := .tuple #[.agg #[.int .i64 p, .int .i64 s.x, .int .i64 s.y, .slice A1 L.length c1], .agg #[.int .i64 q, .int .i64 s.x, .int .i64 s.y, .slice (some ⟨g8, 0, none⟩) i c8]]) (by simp [results, Tryz.results23, go_sem, C0, C1, C2, C3, D0, D1, D2, D3]) rfl ?_
          exact ⟨p, s, A1, c1, L, q, s, (some ⟨g8, 0, none⟩), c8, L.take i, by rw [HT.out], Mem.of_own P1.out, HL.out, (Mem.of_own P2.out).takeR i, by have := HL.out; have := HT.out; omega, P3.out⟩
      have q1 : ((r : Int) == 1) = false := beq_eq_false_iff_ne.2 hr1
      clear hr1
      by_cases hr2 : r = 2
      ·
        subst hr2
        have hls := Blk.lt S7.out.sbx
        have K4 := Lib.hid (show Box4 w7 sb (.int .i64 p) (.int .i64 s.x) (.int .i64 s.y) (.slice A1 L.length c1) from ⟨S7.out.sbx.cell 0, S7.out.sbx.cell 1, S7.out.sbx.cell 2, S7.out.sbx.cell 3⟩)
        have CSH := Lib.hid (fun (w' : World) (h : Cur w' (w.heap.size + 2) (802 + 2)) => sheet_any (w.heap.size + 2) (802 + 2) w' h (by omega))
        have hza : w.heap.size ≠ sb := by omega
        have hya : w.heap.size + 1 ≠ sb := by omega
        have hsg : sb ≠ w.heap.size + 2 := by omega
        clear k3 kf3 hlb hb6g hb68
        go_upto_region 12 with (fail)
        go_region_held3 (fun wx => wx.cell? ⟨sb, 0, none⟩ = some (.int .i64 p) ∧ wx.cell? ⟨sb, 1, none⟩ = some (.int .i64 s.x) ∧ wx.cell? ⟨sb, 2, none⟩ = some (.int .i64 s.y) ∧ wx.cell? ⟨sb, 3, none⟩ = some (.slice A1 L.length c1))
          (repeat (first | with_reducible exact K4.out | with_reducible exact hS5 | with_reducible refine keepE4 ?_ | with_reducible refine keepD4 ?_ | with_reducible refine keepP4 ?_ hza | with_reducible refine keepP4 ?_ hya))
          (first
            | (go_at_call 44; (first | (refine (CSH.out _ ?_).mono ?_) | fail); (focus (repeat (first | with_reducible exact S7.out.cur | with_reducible refine cur_drew ?_ | with_reducible refine Cur.alloc ?_ _))); rintro e w5 ⟨p', s', A', c', L', rfl, own', hl', _, hc5, ho5⟩; have hS5 : Box4 w5 sb (.int .i64 p) (.int .i64 s.x) (.int .i64 s.y) (.slice A1 L.length c1) := keepB4 ho5 (by repeat (first | with_reducible exact K4.out | with_reducible refine keepE4 ?_ | with_reducible refine keepD4 ?_)) hsg; have HV5 : Oth (w.heap.size + 2) w7 w5 := Oth.trans (by repeat (first | with_reducible exact Oth.refl _ _ | with_reducible refine Oth.drew ?_ | with_reducible refine Oth.alloc ?_ _)) ho5; have S9 := Lib.hid (S7.out.next HV5 hc5); have zk := Lib.hid S9.out.z; have yk := Lib.hid S9.out.y; have z0 : w5.cell? ⟨w.heap.size, 0, none⟩ = some (.int .i64 0) := (Blk.cell zk.out 0).trans rfl; have zf0 := Blk.frozen zk.out 0; have z1 : w5.cell? ⟨w.heap.size, 1, none⟩ = some (.int .i64 0) := (Blk.cell zk.out 1).trans rfl; have zf1 := Blk.frozen zk.out 1; have z2 : w5.cell? ⟨w.heap.size, 2, none⟩ = some (.int .i64 0) := (Blk.cell zk.out 2).trans rfl; have zf2 := Blk.frozen zk.out 2; have z3 : w5.cell? ⟨w.heap.size, 3, none⟩ = some (.slice none 0 0) := (Blk.cell zk.out 3).trans rfl; have zf3 := Blk.frozen zk.out 3; have y0 : w5.cell? ⟨w.heap.size + 1, 0, none⟩ = some (.int .i64 0) := (Blk.cell yk.out 0).trans rfl; have yf0 := Blk.frozen yk.out 0; have y1 : w5.cell? ⟨w.heap.size + 1, 1, none⟩ = some (.int .i64 0) := (Blk.cell yk.out 1).trans rfl; have yf1 := Blk.frozen yk.out 1; have y2 : w5.cell? ⟨w.heap.size + 1, 2, none⟩ = some (.int .i64 0) := (Blk.cell yk.out 2).trans rfl; have yf2 := Blk.frozen yk.out 2; have y3 : w5.cell? ⟨w.heap.size + 1, 3, none⟩ = some (.slice none 0 0) := (Blk.cell yk.out 3).trans rfl; have yf3 := Blk.frozen yk.out 3; have hlz := Blk.lt zk.out; have hly := Blk.lt yk.out))
        all_goals go_wp2_with fail
        all_goals rename_i hHeld
        all_goals clear hHeld
        have own2 := own_base own' (base' := w.heap.size + 3) (by simp; omega)
        obtain ⟨p1, p2, p3, p4, p5⟩ := putZY (v0 := .int .i64 p) (v1 := .int .i64 s.x) (v2 := .int .i64 s.y) (v3 := .slice A1 L.length c1) (u0 := .int .i64 p') (u1 := .int .i64 s'.x) (u2 := .int .i64 s'.y) (u3 := .slice A' L'.length c') zk.out yk.out S9.out.bel S9.out.o1 own2
        have P1 := Lib.hid p1
        have P2 := Lib.hid p2
        have P3 := Lib.hid p3
        have P4 := Lib.hid p4
        have P5 := Lib.hid p5
        clear p1 p2 p3 p4 p5 own2 own'
        generalize ((((((((w5.setCell ⟨w.heap.size, 0, none⟩ (.int .i64 p)).setCell ⟨w.heap.size, 1, none⟩ (.int .i64 s.x)).setCell ⟨w.heap.size, 2, none⟩ (.int .i64 s.y)).setCell ⟨w.heap.size, 3, none⟩ (.slice A1 L.length c1)).setCell ⟨w.heap.size + 1, 0, none⟩ (.int .i64 p')).setCell ⟨w.heap.size + 1, 1, none⟩ (.int .i64 s'.x)).setCell ⟨w.heap.size + 1, 2, none⟩ (.int .i64 s'.y)).setCell ⟨w.heap.size + 1, 3, none⟩ (.slice A' L'.length c')) = WF at *
        have C0 : WF.cell? ⟨w.heap.size, 0, none⟩ = some (.int .i64 p) := (P4.out.cell 0).trans rfl
        have C1 : WF.cell? ⟨w.heap.size, 1, none⟩ = some (.int .i64 s.x) := (P4.out.cell 1).trans rfl
        have C2 : WF.cell? ⟨w.heap.size, 2, none⟩ = some (.int .i64 s.y) := (P4.out.cell 2).trans rfl
        have C3 : WF.cell? ⟨w.heap.size, 3, none⟩ = some (.slice A1 L.length c1) := (P4.out.cell 3).trans rfl
        have D0 : WF.cell? ⟨w.heap.size + 1, 0, none⟩ = some (.int .i64 p') := (P5.out.cell 0).trans rfl
        have D1 : WF.cell? ⟨w.heap.size + 1, 1, none⟩ = some (.int .i64 s'.x) := (P5.out.cell 1).trans rfl
        have D2 : WF.cell? ⟨w.heap.size + 1, 2, none⟩ = some (.int .i64 s'.y) := (P5.out.cell 2).trans rfl
        have D3 : WF.cell? ⟨w.heap.size + 1, 3, none⟩ = some (.slice A' L'.length c') := (P5.out.cell 3).trans rfl
        refine bodyPost_ret (v := .tuple #[.agg #[.int .i64 p, .int .i64 s.x, .int .i64 s.y, .slice A1 L.length c1], .agg #[.int .i64 p', .int .i64 s'.x, .int .i64 s'.y, .slice A' L'.length c']]) (by simp [results, Tryz.results23, go_sem, C0, C1, C2, C3, D0, D1, D2, D3]) rfl ?_
        exact ⟨p, s, A1, c1, L, p', s', A', c', L', rfl, Mem.of_own P1.out, HL.out, Mem.of_own P2.out, hl', P3.out⟩
      have q2 : ((r : Int) == 2) = false := beq_eq_false_iff_ne.2 hr2
      clear hr2 k3 kf3 hlb
      have zk := Lib.hid (S7.out.z)
      have yk := Lib.hid (S7.out.y)
      have hbb := S7.out.hb
      have s0 : w7.cell? ⟨sb, 0, none⟩ = some (.int .i64 p) := (Blk.cell S7.out.sbx 0).trans rfl
      have s1 : w7.cell? ⟨sb, 1, none⟩ = some (.int .i64 s.x) := (Blk.cell S7.out.sbx 1).trans rfl
      have s2 : w7.cell? ⟨sb, 2, none⟩ = some (.int .i64 s.y) := (Blk.cell S7.out.sbx 2).trans rfl
      have s3 : w7.cell? ⟨sb, 3, none⟩ = some (.slice A1 L.length c1) := (Blk.cell S7.out.sbx 3).trans rfl
      have t0 : w7.cell? ⟨b6, 0, none⟩ = some (.int .i64 q) := (Blk.cell (S7.out.b6x) 0).trans rfl
      have t1 : w7.cell? ⟨b6, 1, none⟩ = some (.int .i64 s.x) := (Blk.cell (S7.out.b6x) 1).trans rfl
      have t2 : w7.cell? ⟨b6, 2, none⟩ = some (.int .i64 s.y) := (Blk.cell (S7.out.b6x) 2).trans rfl
      have t3 : w7.cell? ⟨b6, 3, none⟩ = some (.slice (some ⟨g8, 0, none⟩) L.length c8) := (Blk.cell (S7.out.b6x) 3).trans rfl
      have hlb := Blk.lt (S7.out.b6x)
      have hls := Blk.lt S7.out.sbx
      have z0 : w7.cell? ⟨w.heap.size, 0, none⟩ = some (.int .i64 0) := (Blk.cell zk.out 0).trans rfl
      have zf0 := Blk.frozen zk.out 0
      have z1 : w7.cell? ⟨w.heap.size, 1, none⟩ = some (.int .i64 0) := (Blk.cell zk.out 1).trans rfl
      have zf1 := Blk.frozen zk.out 1
      have z2 : w7.cell? ⟨w.heap.size, 2, none⟩ = some (.int .i64 0) := (Blk.cell zk.out 2).trans rfl
      have zf2 := Blk.frozen zk.out 2
      have z3 : w7.cell? ⟨w.heap.size, 3, none⟩ = some (.slice none 0 0) := (Blk.cell zk.out 3).trans rfl
      have zf3 := Blk.frozen zk.out 3
      have y0 : w7.cell? ⟨w.heap.size + 1, 0, none⟩ = some (.int .i64 0) := (Blk.cell yk.out 0).trans rfl
      have yf0 := Blk.frozen yk.out 0
      have y1 : w7.cell? ⟨w.heap.size + 1, 1, none⟩ = some (.int .i64 0) := (Blk.cell yk.out 1).trans rfl
      have yf1 := Blk.frozen yk.out 1
      have y2 : w7.cell? ⟨w.heap.size + 1, 2, none⟩ = some (.int .i64 0) := (Blk.cell yk.out 2).trans rfl
      have yf2 := Blk.frozen yk.out 2
      have y3 : w7.cell? ⟨w.heap.size + 1, 3, none⟩ = some (.slice none 0 0) := (Blk.cell yk.out 3).trans rfl
      have yf3 := Blk.frozen yk.out 3
      have hlz := Blk.lt zk.out
      have hly := Blk.lt yk.out
      have o1_ : w7.ownsRow (w.heap.size + 3) 46 3 (.slice A1 L.length c1) L.length (rows L) := S7.out.o1
      have o2_ : w7.ownsRow (w.heap.size + 3) 46 3 (.slice (some ⟨g8, 0, none⟩) L.length c8) L.length (rows L) := S7.out.o8
      obtain ⟨p1, p2, p3, p4, p5⟩ := putZY (v0 := .int .i64 p) (v1 := .int .i64 s.x) (v2 := .int .i64 s.y) (v3 := .slice A1 L.length c1) (u0 := .int .i64 q) (u1 := .int .i64 s.x) (u2 := .int .i64 s.y) (u3 := .slice (some ⟨g8, 0, none⟩) L.length c8) zk.out yk.out S7.out.bel o1_ o2_
      have P1 := Lib.hid (own_drew p1)
      have P2 := Lib.hid (own_drew p2)
      have P3 := Lib.hid (Below.drew p3)
      have P4 := Lib.hid (Blk.drew p4)
      have P5 := Lib.hid (Blk.drew p5)
      clear p1 p2 p3 p4 p5 o1_ o2_
      have K8 := Lib.hid (show w7.cell? ⟨sb, 0, none⟩ = some (.int .i64 p) ∧ w7.cell? ⟨sb, 1, none⟩ = some (.int .i64 s.x) ∧ w7.cell? ⟨sb, 2, none⟩ = some (.int .i64 s.y) ∧ w7.cell? ⟨sb, 3, none⟩ = some (.slice A1 L.length c1) ∧ w7.cell? ⟨b6, 0, none⟩ = some (.int .i64 q) ∧ w7.cell? ⟨b6, 1, none⟩ = some (.int .i64 s.x) ∧ w7.cell? ⟨b6, 2, none⟩ = some (.int .i64 s.y) ∧ w7.cell? ⟨b6, 3, none⟩ = some (.slice (some ⟨g8, 0, none⟩) L.length c8) from ⟨s0, s1, s2, s3, t0, t1, t2, t3⟩)
      have hza : w.heap.size ≠ sb := by omega
      have hzb : w.heap.size ≠ b6 := by omega
      have hya : w.heap.size + 1 ≠ sb := by omega
      have hyb : w.heap.size + 1 ≠ b6 := by omega
      go_upto_region 13 with (fail)
      go_region_held3 (fun wx => wx.cell? ⟨sb, 0, none⟩ = some (.int .i64 p) ∧ wx.cell? ⟨sb, 1, none⟩ = some (.int .i64 s.x) ∧ wx.cell? ⟨sb, 2, none⟩ = some (.int .i64 s.y) ∧ wx.cell? ⟨sb, 3, none⟩ = some (.slice A1 L.length c1) ∧ wx.cell? ⟨b6, 0, none⟩ = some (.int .i64 q) ∧ wx.cell? ⟨b6, 1, none⟩ = some (.int .i64 s.x) ∧ wx.cell? ⟨b6, 2, none⟩ = some (.int .i64 s.y) ∧ wx.cell? ⟨b6, 3, none⟩ = some (.slice (some ⟨g8, 0, none⟩) L.length c8))
        (repeat (first | with_reducible exact K8.out | with_reducible refine keepE8 ?_ | with_reducible refine keepP8 ?_ hza hzb | with_reducible refine keepP8 ?_ hya hyb))
        (fail)
      all_goals go_wp2_with fail
      generalize (((((((((w7.setCell ⟨w.heap.size, 0, none⟩ (.int .i64 p)).setCell ⟨w.heap.size, 1, none⟩ (.int .i64 s.x)).setCell ⟨w.heap.size, 2, none⟩ (.int .i64 s.y)).setCell ⟨w.heap.size, 3, none⟩ (.slice A1 L.length c1)).setCell ⟨w.heap.size + 1, 0, none⟩ (.int .i64 q)).setCell ⟨w.heap.size + 1, 1, none⟩ (.int .i64 s.x)).setCell ⟨w.heap.size + 1, 2, none⟩ (.int .i64 s.y)).setCell ⟨w.heap.size + 1, 3, none⟩ (.slice (some ⟨g8, 0, none⟩) L.length c8)).drew) = WF at *
      have C0 : WF.cell? ⟨w.heap.size, 0, none⟩ = some (.int .i64 p) := (P4.out.cell 0).trans rfl
      have C1 : WF.cell? ⟨w.heap.size, 1, none⟩ = some (.int .i64 s.x) := (P4.out.cell 1).trans rfl
      have C2 : WF.cell? ⟨w.heap.size, 2, none⟩ = some (.int .i64 s.y) := (P4.out.cell 2).trans rfl
      have C3 : WF.cell? ⟨w.heap.size, 3, none⟩ = some (.slice A1 L.length c1) := (P4.out.cell 3).trans rfl
      have D0 : WF.cell? ⟨w.heap.size + 1, 0, none⟩ = some (.int .i64 q) := (P5.out.cell 0).trans rfl
      have D1 : WF.cell? ⟨w.heap.size + 1, 1, none⟩ = some (.int .i64 s.x) := (P5.out.cell 1).trans rfl
      have D2 : WF.cell? ⟨w.heap.size + 1, 2, none⟩ = some (.int .i64 s.y) := (P5.out.cell 2).trans rfl
      have D3 : WF.cell? ⟨w.heap.size + 1, 3, none⟩ = some (.slice (some ⟨g8, 0, none⟩) L.length c8) := (P5.out.cell 3).trans rfl
      refine bodyPost_ret (v := .tuple #[.agg #[.int .i64 p, .int .i64 s.x, .int .i64 s.y, .slice A1 L.length c1], .agg #[.int .i64 q, .int .i64 s.x, .int .i64 s.y, .slice (some ⟨g8, 0, none⟩) L.length c8]]) (by simp [results, Tryz.results23, go_sem, C0, C1, C2, C3, D0, D1, D2, D3]) rfl ?_
      exact ⟨p, s, A1, c1, L, q, s, (some ⟨g8, 0, none⟩), c8, L, rfl, Mem.of_own P1.out, HL.out, Mem.of_own P2.out, by have := HL.out; omega, P3.out⟩
end Go.Proofs.YtdmgffcabjpihaaGreatDoor
