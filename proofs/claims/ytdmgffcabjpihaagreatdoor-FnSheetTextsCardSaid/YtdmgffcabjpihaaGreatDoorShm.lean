/-
  Contracts: the moves of a sheet; MovesOf, LongestRow, the program's and the reference's.
-/
import Derived.Test.YtdmgffcabjpihaaGreatDoorSht
import Derived.Test.YtdmgffcabjpihaaGreatDoorKeep
import Derived.RegionTactic
import Derived.BigRegion
import Derived.Deep.QuietTactic
import Derived.BigQuiet
namespace Go.Proofs.YtdmgffcabjpihaaGreatDoor
open Go.RowKit Go.Sort

def RetMoves (w : World) (V : List Mv) (e : Ending) (w' : World) : Prop :=
  ∃ A' c', e = .returned (.slice A' V.length c') ∧ w'.ownsRow w.heap.size 49 5 (.slice A' V.length c') V.length (moves V) ∧ Below w.heap.size w w'
theorem RetMoves.mk {w w' : World} {V : List Mv} {v : Value} {n base : Nat} (ho : w'.ownsRow base 49 5 v n (moves V)) (hn : n = V.length) (hbase : w.heap.size ≤ base) (hb : Below w.heap.size w w') : RetMoves w V (.returned v) w' := by
  subst hn
  obtain ⟨A', c', rfl⟩ := own_form ho
  exact ⟨A', c', rfl, own_base ho hbase, hb⟩
def RetMovesB (w : World) (V : List Mv) (ok : Bool) (e : Ending) (w' : World) : Prop :=
  ∃ A' c', e = .returned (.tuple #[.slice A' V.length c', .bool ok]) ∧ w'.ownsRow w.heap.size 49 5 (.slice A' V.length c') V.length (moves V) ∧ Below w.heap.size w w'
theorem RetMovesB.none_ {w w' : World} {V : List Mv} {ok : Bool} (hV : V = []) (hok : ok = false) (hb : Below w.heap.size w w') : RetMovesB w V ok (.returned (.tuple #[.slice none 0 0, .bool false])) w' := by
  subst hV hok
  exact ⟨none, 0, rfl, World.ownsRow_nil _ _ _ _, hb⟩
theorem RetMovesB.some_ {w w' : World} {V V' : List Mv} {ok : Bool} {v : Value} {n base : Nat} (hok : ok = true) (hV : V = V') (ho : w'.ownsRow base 49 5 v n (moves V')) (hn : n = V'.length) (hbase : w.heap.size ≤ base) (hb : Below w.heap.size w w') : RetMovesB w V ok (.returned (.tuple #[v, .bool true])) w' := by
  subst hok hV hn
  obtain ⟨A', c', rfl⟩ := own_form ho
  exact ⟨A', c', rfl, own_base ho hbase, hb⟩
theorem ats_next {s : Sp} {L : List Rw} {k : Nat} {r : Rw} (h : L[k]? = some r) : (ats s L)[k + 1]? = some r.t := ats_succ h

set_option maxRecDepth 100000 in
set_option maxHeartbeats 3200000 in
theorem shRows_any (p : Int) (s : Sp) (A : Option Addr) (c : Nat) (L : List Rw) (w : World) (hm : Mem w A (rows L)) (hl : L.length ≤ 1048576) : Calls Tryz.prog 31 #[.agg #[.int .i64 p, .int .i64 s.x, .int .i64 s.y, .slice A L.length c]] w (RetMoves w (mvs s L)) := by
  obtain ⟨i0, hi, hz0, hz1, hz2⟩ := info_parts info_move
  go_enter Tryz.func31, Tryz.ntmps31
  go_wp2
  have HB0 : Blk ((w.alloc (.cells #[.int .i64 p, .int .i64 s.x, .int .i64 s.y, .slice A L.length c] 28)).alloc (.cells #[.int .i64 s.x, .int .i64 s.y] 25)) (w.heap.size + 1) #[.int .i64 s.x, .int .i64 s.y] 25 := by
    have h := Blk.new (w.alloc (.cells #[.int .i64 p, .int .i64 s.x, .int .i64 s.y, .slice A L.length c] 28)) #[.int .i64 s.x, .int .i64 s.y] 25
    simpa using h
  have HO0 : ((w.alloc (.cells #[.int .i64 p, .int .i64 s.x, .int .i64 s.y, .slice A L.length c] 28)).alloc (.cells #[.int .i64 s.x, .int .i64 s.y] 25)).ownsRow (w.heap.size + 1) 49 5 (.slice none 0 0) 0 (moves ((mvs s L).take 0)) := World.ownsRow_nil _ _ _ _
  have HBX : Below (w.heap.size + 1) (w.alloc (.cells #[.int .i64 p, .int .i64 s.x, .int .i64 s.y, .slice A L.length c] 28)) ((w.alloc (.cells #[.int .i64 p, .int .i64 s.x, .int .i64 s.y, .slice A L.length c] 28)).alloc (.cells #[.int .i64 s.x, .int .i64 s.y] 25)) := by (repeat (first | exact Below.refl _ _ | assumption | (refine Below.alloc ?_ (by first | omega | (simp; done) | (simp; omega)) _) | (refine Below.setCell ?_ (by first | omega | (simp; done) | (simp; omega)) _) | (refine Below.drew ?_) | (refine Below.drewN ?_ _) | (refine Below.next (by assumption) ?_ (by first | omega | (simp; done) | (simp; omega)))))
  go_loopw [3, 6, 12] (fun v _ i wr => ∃ (k : Nat) (f : Sp), k ≤ L.length ∧ i = .int .i64 k ∧ Blk wr (w.heap.size + 1) #[.int .i64 f.x, .int .i64 f.y] 25 ∧ Hid ((ats s L)[k]? = some f) ∧ wr.ownsRow (w.heap.size + 1) 49 5 v k (moves ((mvs s L).take k)) ∧ Hid (v.ownBlock ≠ some (w.heap.size + 1)) ∧ Below (w.heap.size + 1) (w.alloc (.cells #[.int .i64 p, .int .i64 s.x, .int .i64 s.y, .slice A L.length c] 28)) wr) (fun _ _ i _ => L.length - (intOf i).toNat)
  case atStart => exact ⟨0, s, by omega, rfl, HB0, Lib.hid (ats_zero s L), HO0, Lib.hid (by simp [Value.ownBlock]), HBX⟩
  case round =>
    obtain ⟨k, f, hk, rfl, hblk, HF, hown, HN, hbx⟩ := hrel
    clear HB0 HO0 HBX
    obtain ⟨hb, hsz⟩ := boxed hbx
    have hgl := hblk.lt
    by_cases hlt : k < L.length
    · obtain ⟨r, hr⟩ := some_of_lt hlt
      obtain ⟨b, off, rfl, h1, h2, h3⟩ := (hm.below hb).row hr
      have HTK := Lib.hid (mvs_take HF.out hr)
      have HNX := Lib.hid (ats_next (s := s) hr)
      have hf1 : wr.frozen? ⟨w.heap.size + 1, 0, none⟩ = false := hblk.frozen 0
      have hf2 : wr.frozen? ⟨w.heap.size + 1, 1, none⟩ = false := hblk.frozen 1
      have q1 : wr.cell? ⟨w.heap.size + 1, 0, none⟩ = some (.int .i64 f.x) := hblk.cell 0
      have q2 : wr.cell? ⟨w.heap.size + 1, 1, none⟩ = some (.int .i64 f.y) := hblk.cell 1
      have HB := Lib.hid hblk
      have HLT := Lib.hid (own_lt hown)
      have HO := Lib.hid (hown.alloc (.cells #[.int .i64 r.c, .int .i64 r.t.x, .int .i64 r.t.y] 46))
      clear hr hown hblk
      go_wp2_with (at_builtin; (refine wpList_append_keep _ rfl (.tmp 16) (.tmp 23) 32 rfl (w.heap.size + 1) 49 i0 (.agg #[.int .i64 0, .int .i64 0, .int .i64 0, .int .i64 0, .int .i64 0]) 5 40 Tryz.underlying32 hi hz0 hz1 hz2 rfl (by omega) _ _ _ rfl HO.out _ _ _ (congrArg (fun g => Value.slice (some ⟨g, 0, none⟩) 1 1) (by simp)) rfl rfl (by omega) (by omega) (by simp; omega) ?_; intro v' w2 hown' hb2 hkp hz3; have HK1 := hkp (w.heap.size + 1) (by simp; omega) HN.out; have HBK : Hid (Blk w2 (w.heap.size + 1) #[.int .i64 f.x, .int .i64 f.y] 25) := Lib.hid (HK1.1.trans (HB.out.alloc _)); have HK2 := Lib.hid HK1.2; have hk5 := (hkp wr.heap.size (by simp) (fun e => by have := (HLT.out _ e).2; omega)).1; have hr0 : w2.cell? ⟨wr.heap.size, 1, none⟩ = some (.int .i64 r.t.x) := cell_of_row _ wr.heap.size 1 _ _ (0, 0) (hk5.trans (heap_alloc_new wr _)); have hr1 : w2.cell? ⟨wr.heap.size, 2, none⟩ = some (.int .i64 r.t.y) := cell_of_row _ wr.heap.size 2 _ _ (0, 0) (hk5.trans (heap_alloc_new wr _)); have hc1 : w2.cell? ⟨w.heap.size + 1, 0, none⟩ = some (.int .i64 f.x) := HBK.out.cell 0; have hc2 : w2.cell? ⟨w.heap.size + 1, 1, none⟩ = some (.int .i64 f.y) := HBK.out.cell 1; have hg1 : w2.frozen? ⟨w.heap.size + 1, 0, none⟩ = false := HBK.out.frozen 0; have hg2 : w2.frozen? ⟨w.heap.size + 1, 1, none⟩ = false := HBK.out.frozen 1; have HO2 := Lib.hid hown'; clear hkp HK1 hk5 hown'))
      go_roundw
      case rel =>
        refine ⟨k + 1, r.t, by omega, by go_num, HBK.out.set2 _ _, HNX, ?_, HK2, ?_⟩
        · rw [HTK.out, moves_snoc]
          exact ownsRow_setCell_other (ownsRow_setCell_other HO2.out HK2.out _) HK2.out _
        · exact ((Below.trans (hbx.alloc (by omega) _) hb2).setCell (by (try dsimp only); omega) _).setCell (by (try dsimp only); omega) _
      case measure => simp [intOf]; omega
    · go_wp2
      go_ret
      have e1 : k = L.length := by omega
      subst e1
      rw [List.take_of_length_le (by rw [mvs_len]; omega)] at hown
      exact RetMoves.mk hown (mvs_len s L).symm (by omega) hb
set_option maxRecDepth 100000 in
set_option maxHeartbeats 3200000 in
theorem sheetMoves_any (p : Int) (s : Sp) (A : Option Addr) (c : Nat) (L : List Rw) (w : World) (hm : Mem w A (rows L)) (hl : L.length ≤ 1048576) : Calls Tryz.prog 30 #[.agg #[.int .i64 p, .int .i64 s.x, .int .i64 s.y, .slice A L.length c]] w (RetMoves w (mvs s L)) := by
  obtain ⟨i0, hi, hz0, hz1, hz2⟩ := info_parts info_move
  go_enter Tryz.func30, Tryz.ntmps30
  go_wp2
  go_region
  · go_wp2
    have HB0 : Blk (((w.alloc (.cells #[.int .i64 p, .int .i64 s.x, .int .i64 s.y, .slice A L.length c] 28)).alloc (.cells #[] 49)).alloc (.cells #[.int .i64 s.x, .int .i64 s.y] 25)).drew (w.heap.size + 1 + 1) #[.int .i64 s.x, .int .i64 s.y] 25 := by
      have h := Blk.new ((w.alloc (.cells #[.int .i64 p, .int .i64 s.x, .int .i64 s.y, .slice A L.length c] 28)).alloc (.cells #[] 49)) #[.int .i64 s.x, .int .i64 s.y] 25
      simpa using h.drew
    have HO0 : (((w.alloc (.cells #[.int .i64 p, .int .i64 s.x, .int .i64 s.y, .slice A L.length c] 28)).alloc (.cells #[] 49)).alloc (.cells #[.int .i64 s.x, .int .i64 s.y] 25)).drew.ownsRow (w.heap.size + 1) 49 5 (.slice (some ⟨w.heap.size + 1, 0, none⟩) 0 0) 0 (moves ((mvs s L).take 0)) := own_drew ((own_empty (w := w.alloc (.cells #[.int .i64 p, .int .i64 s.x, .int .i64 s.y, .slice A L.length c] 28)) _ _ (by simp) (by omega) rfl).alloc _)
    have HBX : Below (w.heap.size + 1) (w.alloc (.cells #[.int .i64 p, .int .i64 s.x, .int .i64 s.y, .slice A L.length c] 28)) (((w.alloc (.cells #[.int .i64 p, .int .i64 s.x, .int .i64 s.y, .slice A L.length c] 28)).alloc (.cells #[] 49)).alloc (.cells #[.int .i64 s.x, .int .i64 s.y] 25)).drew := by (repeat (first | exact Below.refl _ _ | assumption | (refine Below.alloc ?_ (by first | omega | (simp; done) | (simp; omega)) _) | (refine Below.setCell ?_ (by first | omega | (simp; done) | (simp; omega)) _) | (refine Below.drew ?_) | (refine Below.drewN ?_ _) | (refine Below.next (by assumption) ?_ (by first | omega | (simp; done) | (simp; omega)))))
    go_loopw [3, 6, 13] (fun v _ i wr => ∃ (k : Nat) (f : Sp), k ≤ L.length ∧ i = .int .i64 k ∧ Blk wr (w.heap.size + 1 + 1) #[.int .i64 f.x, .int .i64 f.y] 25 ∧ Hid ((ats s L)[k]? = some f) ∧ wr.ownsRow (w.heap.size + 1) 49 5 v k (moves ((mvs s L).take k)) ∧ Hid (v.ownBlock ≠ some (w.heap.size + 1 + 1)) ∧ Below (w.heap.size + 1) (w.alloc (.cells #[.int .i64 p, .int .i64 s.x, .int .i64 s.y, .slice A L.length c] 28)) wr) (fun _ _ i _ => L.length - (intOf i).toNat)
    case atStart => exact ⟨0, s, by omega, rfl, HB0, Lib.hid (ats_zero s L), HO0, Lib.hid (by simp [Value.ownBlock]), HBX⟩
    case round =>
      obtain ⟨k, f, hk, rfl, hblk, HF, hown, HN, hbx⟩ := hrel
      clear HB0 HO0 HBX
      obtain ⟨hb, hsz⟩ := boxed hbx
      have hgl := hblk.lt
      by_cases hlt : k < L.length
      · obtain ⟨r, hr⟩ := some_of_lt hlt
        obtain ⟨b, off, rfl, h1, h2, h3⟩ := (hm.below hb).row hr
        have HTK := Lib.hid (mvs_take HF.out hr)
        have HNX := Lib.hid (ats_next (s := s) hr)
        have hf1 : wr.frozen? ⟨w.heap.size + 1 + 1, 0, none⟩ = false := hblk.frozen 0
        have hf2 : wr.frozen? ⟨w.heap.size + 1 + 1, 1, none⟩ = false := hblk.frozen 1
        have q1 : wr.cell? ⟨w.heap.size + 1 + 1, 0, none⟩ = some (.int .i64 f.x) := hblk.cell 0
        have q2 : wr.cell? ⟨w.heap.size + 1 + 1, 1, none⟩ = some (.int .i64 f.y) := hblk.cell 1
        have HB := Lib.hid hblk
        have HLT := Lib.hid (own_lt hown)
        have HO := Lib.hid (hown.alloc (.cells #[.int .i64 r.c, .int .i64 r.t.x, .int .i64 r.t.y] 46))
        clear hr hown hblk
        go_wp2_with (at_builtin; (refine wpList_append_keep _ rfl (.tmp 17) (.tmp 24) 32 rfl (w.heap.size + 1) 49 i0 (.agg #[.int .i64 0, .int .i64 0, .int .i64 0, .int .i64 0, .int .i64 0]) 5 40 Tryz.underlying32 hi hz0 hz1 hz2 rfl (by omega) _ _ _ rfl HO.out _ _ _ (congrArg (fun g => Value.slice (some ⟨g, 0, none⟩) 1 1) (by simp)) rfl rfl (by omega) (by omega) (by simp; omega) ?_; intro v' w2 hown' hb2 hkp hz3; have HK1 := hkp (w.heap.size + 1 + 1) (by simp; omega) HN.out; have HBK : Hid (Blk w2 (w.heap.size + 1 + 1) #[.int .i64 f.x, .int .i64 f.y] 25) := Lib.hid (HK1.1.trans (HB.out.alloc _)); have HK2 := Lib.hid HK1.2; have hk5 := (hkp wr.heap.size (by simp) (fun e => by have := (HLT.out _ e).2; omega)).1; have hr0 : w2.cell? ⟨wr.heap.size, 1, none⟩ = some (.int .i64 r.t.x) := cell_of_row _ wr.heap.size 1 _ _ (0, 0) (hk5.trans (heap_alloc_new wr _)); have hr1 : w2.cell? ⟨wr.heap.size, 2, none⟩ = some (.int .i64 r.t.y) := cell_of_row _ wr.heap.size 2 _ _ (0, 0) (hk5.trans (heap_alloc_new wr _)); have hc1 : w2.cell? ⟨w.heap.size + 1 + 1, 0, none⟩ = some (.int .i64 f.x) := HBK.out.cell 0; have hc2 : w2.cell? ⟨w.heap.size + 1 + 1, 1, none⟩ = some (.int .i64 f.y) := HBK.out.cell 1; have hg1 : w2.frozen? ⟨w.heap.size + 1 + 1, 0, none⟩ = false := HBK.out.frozen 0; have hg2 : w2.frozen? ⟨w.heap.size + 1 + 1, 1, none⟩ = false := HBK.out.frozen 1; have HO2 := Lib.hid hown'; clear hkp HK1 hk5 hown'))
        go_roundw
        case rel =>
          refine ⟨k + 1, r.t, by omega, by go_num, HBK.out.set2 _ _, HNX, ?_, HK2, ?_⟩
          · rw [HTK.out, moves_snoc]
            exact ownsRow_setCell_other (ownsRow_setCell_other HO2.out HK2.out _) HK2.out _
          · exact ((Below.trans (hbx.alloc (by omega) _) hb2).setCell (by (try dsimp only); omega) _).setCell (by (try dsimp only); omega) _
        case measure => simp [intOf]; omega
      · go_wp2
        go_ret
        have e1 : k = L.length := by omega
        subst e1
        rw [List.take_of_length_le (by rw [mvs_len]; omega)] at hown
        exact RetMoves.mk hown (mvs_len s L).symm (by omega) hb
  · go_wp2
    have HB0 : Blk (((w.alloc (.cells #[.int .i64 p, .int .i64 s.x, .int .i64 s.y, .slice A L.length c] 28)).alloc (.cells #[.int .i64 s.x, .int .i64 s.y] 25)).alloc (.cells #[] 49)).drew (w.heap.size + 1) #[.int .i64 s.x, .int .i64 s.y] 25 := by
      have h := (Blk.new (w.alloc (.cells #[.int .i64 p, .int .i64 s.x, .int .i64 s.y, .slice A L.length c] 28)) #[.int .i64 s.x, .int .i64 s.y] 25).alloc (.cells #[] 49)
      simpa using h.drew
    have HO0 : (((w.alloc (.cells #[.int .i64 p, .int .i64 s.x, .int .i64 s.y, .slice A L.length c] 28)).alloc (.cells #[.int .i64 s.x, .int .i64 s.y] 25)).alloc (.cells #[] 49)).drew.ownsRow (w.heap.size + 1) 49 5 (.slice (some ⟨w.heap.size + 1 + 1, 0, none⟩) 0 0) 0 (moves ((mvs s L).take 0)) := own_drew (own_empty (w := (w.alloc (.cells #[.int .i64 p, .int .i64 s.x, .int .i64 s.y, .slice A L.length c] 28)).alloc (.cells #[.int .i64 s.x, .int .i64 s.y] 25)) _ _ (by simp) (by omega) rfl)
    have HBX : Below (w.heap.size + 1) (w.alloc (.cells #[.int .i64 p, .int .i64 s.x, .int .i64 s.y, .slice A L.length c] 28)) (((w.alloc (.cells #[.int .i64 p, .int .i64 s.x, .int .i64 s.y, .slice A L.length c] 28)).alloc (.cells #[.int .i64 s.x, .int .i64 s.y] 25)).alloc (.cells #[] 49)).drew := by (repeat (first | exact Below.refl _ _ | assumption | (refine Below.alloc ?_ (by first | omega | (simp; done) | (simp; omega)) _) | (refine Below.setCell ?_ (by first | omega | (simp; done) | (simp; omega)) _) | (refine Below.drew ?_) | (refine Below.drewN ?_ _) | (refine Below.next (by assumption) ?_ (by first | omega | (simp; done) | (simp; omega)))))
    go_loopw [3, 6, 13] (fun v _ i wr => ∃ (k : Nat) (f : Sp), k ≤ L.length ∧ i = .int .i64 k ∧ Blk wr (w.heap.size + 1) #[.int .i64 f.x, .int .i64 f.y] 25 ∧ Hid ((ats s L)[k]? = some f) ∧ wr.ownsRow (w.heap.size + 1) 49 5 v k (moves ((mvs s L).take k)) ∧ Hid (v.ownBlock ≠ some (w.heap.size + 1)) ∧ Below (w.heap.size + 1) (w.alloc (.cells #[.int .i64 p, .int .i64 s.x, .int .i64 s.y, .slice A L.length c] 28)) wr) (fun _ _ i _ => L.length - (intOf i).toNat)
    case atStart => exact ⟨0, s, by omega, rfl, HB0, Lib.hid (ats_zero s L), HO0, Lib.hid (by simp [Value.ownBlock]), HBX⟩
    case round =>
      obtain ⟨k, f, hk, rfl, hblk, HF, hown, HN, hbx⟩ := hrel
      clear HB0 HO0 HBX
      obtain ⟨hb, hsz⟩ := boxed hbx
      have hgl := hblk.lt
      by_cases hlt : k < L.length
      · obtain ⟨r, hr⟩ := some_of_lt hlt
        obtain ⟨b, off, rfl, h1, h2, h3⟩ := (hm.below hb).row hr
        have HTK := Lib.hid (mvs_take HF.out hr)
        have HNX := Lib.hid (ats_next (s := s) hr)
        have hf1 : wr.frozen? ⟨w.heap.size + 1, 0, none⟩ = false := hblk.frozen 0
        have hf2 : wr.frozen? ⟨w.heap.size + 1, 1, none⟩ = false := hblk.frozen 1
        have q1 : wr.cell? ⟨w.heap.size + 1, 0, none⟩ = some (.int .i64 f.x) := hblk.cell 0
        have q2 : wr.cell? ⟨w.heap.size + 1, 1, none⟩ = some (.int .i64 f.y) := hblk.cell 1
        have HB := Lib.hid hblk
        have HLT := Lib.hid (own_lt hown)
        have HO := Lib.hid (hown.alloc (.cells #[.int .i64 r.c, .int .i64 r.t.x, .int .i64 r.t.y] 46))
        clear hr hown hblk
        go_wp2_with (at_builtin; (refine wpList_append_keep _ rfl (.tmp 17) (.tmp 24) 32 rfl (w.heap.size + 1) 49 i0 (.agg #[.int .i64 0, .int .i64 0, .int .i64 0, .int .i64 0, .int .i64 0]) 5 40 Tryz.underlying32 hi hz0 hz1 hz2 rfl (by omega) _ _ _ rfl HO.out _ _ _ (congrArg (fun g => Value.slice (some ⟨g, 0, none⟩) 1 1) (by simp)) rfl rfl (by omega) (by omega) (by simp; omega) ?_; intro v' w2 hown' hb2 hkp hz3; have HK1 := hkp (w.heap.size + 1) (by simp; omega) HN.out; have HBK : Hid (Blk w2 (w.heap.size + 1) #[.int .i64 f.x, .int .i64 f.y] 25) := Lib.hid (HK1.1.trans (HB.out.alloc _)); have HK2 := Lib.hid HK1.2; have hk5 := (hkp wr.heap.size (by simp) (fun e => by have := (HLT.out _ e).2; omega)).1; have hr0 : w2.cell? ⟨wr.heap.size, 1, none⟩ = some (.int .i64 r.t.x) := cell_of_row _ wr.heap.size 1 _ _ (0, 0) (hk5.trans (heap_alloc_new wr _)); have hr1 : w2.cell? ⟨wr.heap.size, 2, none⟩ = some (.int .i64 r.t.y) := cell_of_row _ wr.heap.size 2 _ _ (0, 0) (hk5.trans (heap_alloc_new wr _)); have hc1 : w2.cell? ⟨w.heap.size + 1, 0, none⟩ = some (.int .i64 f.x) := HBK.out.cell 0; have hc2 : w2.cell? ⟨w.heap.size + 1, 1, none⟩ = some (.int .i64 f.y) := HBK.out.cell 1; have hg1 : w2.frozen? ⟨w.heap.size + 1, 0, none⟩ = false := HBK.out.frozen 0; have hg2 : w2.frozen? ⟨w.heap.size + 1, 1, none⟩ = false := HBK.out.frozen 1; have HO2 := Lib.hid hown'; clear hkp HK1 hk5 hown'))
        go_roundw
        case rel =>
          refine ⟨k + 1, r.t, by omega, by go_num, HBK.out.set2 _ _, HNX, ?_, HK2, ?_⟩
          · rw [HTK.out, moves_snoc]
            exact ownsRow_setCell_other (ownsRow_setCell_other HO2.out HK2.out _) HK2.out _
          · exact ((Below.trans (hbx.alloc (by omega) _) hb2).setCell (by (try dsimp only); omega) _).setCell (by (try dsimp only); omega) _
        case measure => simp [intOf]; omega
      · go_wp2
        go_ret
        have e1 : k = L.length := by omega
        subst e1
        rw [List.take_of_length_le (by rw [mvs_len]; omega)] at hown
        exact RetMoves.mk hown (mvs_len s L).symm (by omega) hb
end Go.Proofs.YtdmgffcabjpihaaGreatDoor
