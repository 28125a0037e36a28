/-
  Texts of numbers and spots, as the reference writes them.
-/
import Derived.Test.YtdmgffcabjpihaaGreatDoorLeaf
import Derived.Test.YtdmgffcabjpihaaGreatDoorMem
import Derived.Test.YtdmgffcabjpihaaGreatDoorPlain2
import Derived.Test.YtdmgffcabjpihaaGreatDoorKeep
import Derived.Test.YtdmgffcabjpihaaGreatDoorRow
import Derived.Test.YtdmgffcabjpihaaGreatDoorShp
import Derived.Laws.IdiomStrings
import Derived.Laws.Strings3
import Derived.Lib.ItoaNum
import Derived.Lib.QuietBelow
import Derived.Deep.RegionWith
import Derived.BigRegion
namespace Go.Proofs.YtdmgffcabjpihaaGreatDoor
open Go.RowKit
open Go.Lib (decDigits)
open Go.Sort (grow)

theorem below_drew (w : World) : Below w.heap.size w w.drew := (Below.refl _ _).drew

/-- A string out of bytes. -/
def bs (l : List UInt8) : ByteArray := ⟨l.toArray⟩
theorem bs_append (a b : List UInt8) : bs a ++ bs b = bs (a ++ b) := by
  apply ByteArray.ext
  simp [bs]
theorem bs_size (l : List UInt8) : (bs l).size = l.length := by simp [bs, ByteArray.size]
theorem dec_len : ∀ (n : Nat), n < 1000000 → (decDigits n).length ≤ 6 := by
  intro n hn
  have h : ∀ (k n : Nat), n < 10 ^ (k + 1) → (decDigits n).length ≤ k + 1 := by
    intro k
    induction k with
    | zero => intro n hn; rw [decDigits, dif_pos (by omega)]; simp
    | succ k ih =>
      intro n hn
      by_cases h : n < 10
      · rw [decDigits, dif_pos h]; simp
      · rw [decDigits, dif_neg h, List.length_append]
        have := ih (n / 10) (by rw [Nat.pow_succ] at hn; omega)
        simp only [List.length_singleton]
        omega
  exact h 5 n hn
theorem ret_str {a b : ByteArray} (h : a = b) : Ending.returned (.string a) = .returned (.string b) := by rw [h]

theorem conv_one (x : Int) (h0 : 0 ≤ x) (h1 : x < 256) (b : Nat) (w : World) (h : w.cell? ⟨b, 0, none⟩ = some (.int .u8 x)) :
    Sem.run Tryz.prog (convert 22 9 (.slice (some ⟨b, 0, none⟩) 1 1)) w = .ok (.string (bs [UInt8.ofNat x.toNat])) w := by
  have e : ((UInt8.ofNat x.toNat).toNat : Int) = x := by
    rw [UInt8.toNat_ofNat']
    omega
  refine run_convert_bytes_back w _ _ _ ⟨b, 0, none⟩ 1 [UInt8.ofNat x.toNat] Tryz.underlying22 Tryz.underlying5 Tryz.underlying9 ?_
  intro j hj
  have : j = 0 := by simpa using hj
  subst this
  simp only [List.getElem_cons_zero, e]
  exact h
theorem dec_one {n : Nat} (h : n < 10) : [UInt8.ofNat (48 + (n : Int)).toNat] = decDigits n := by
  rw [decDigits, dif_pos h]
  rfl

theorem dec_more {n : Nat} (h : ¬ n < 10) : decDigits (n / 10) ++ [UInt8.ofNat (48 + (n : Int) % 10).toNat] = decDigits n := by
  conv => rhs; rw [decDigits, dif_neg h]
  congr 3

set_option maxHeartbeats 1600000 in
set_option maxRecDepth 100000 in
theorem l1Num_any : ∀ (n : Nat) (_ : n < 1000000) (w : World), Calls Tryz.prog 58 #[.int .i64 n] w fun e w' => e = .returned (.string (bs (decDigits n))) ∧ Below w.heap.size w w' := by
  intro n
  induction n using Nat.strongRecOn with
  | _ n ih =>
    intro hn w
    by_cases h : n < 10
    · have hw : IntKind.i64.wrap (48 + (n : Int)) = 48 + n := IntWalk.i64_in _ (by omega)
      have hcv := conv_one (48 + (n : Int)) (by omega) (by omega)
      go_enter Tryz.func58, Tryz.ntmps58
      go_wp2
      go_ret
      exact ⟨ret_str (by rw [← dec_one h]; rfl), (Below.refl _ _).alloc (Nat.le_refl _) _⟩
    · have hi := ih (n / 10) (by omega) (by omega)
      have e10 : ((n / 10 : Nat) : Int) = (n : Int) / 10 := by omega
      rw [e10] at hi
      have hw1 : IntKind.i64.wrap ((n : Int) / 10) = (n : Int) / 10 := IntWalk.i64_in _ (by omega)
      have hm : (n : Int).tmod 10 = (n : Int) % 10 := Int.tmod_eq_emod_of_nonneg (by omega)
      have hw2 : IntKind.i64.wrap (48 + (n : Int) % 10) = 48 + (n : Int) % 10 := IntWalk.i64_in _ (by omega)
      have hw3 : IntKind.u8.wrap (48 + (n : Int) % 10) = 48 + (n : Int) % 10 := IntWalk.u8_in _ (by omega)
      obtain ⟨dg, hcv, hz3, hdd⟩ : ∃ dg : ByteArray, (∀ (b : Nat) (w : World), w.cell? ⟨b, 0, none⟩ = some (.int .u8 (48 + (n : Int) % 10)) → Sem.run Tryz.prog (convert 22 9 (.slice (some ⟨b, 0, none⟩) 1 1)) w = .ok (.string dg) w) ∧ dg.size ≤ 1 ∧ bs (decDigits (n / 10)) ++ dg = bs (decDigits n) :=
        ⟨_, conv_one (48 + (n : Int) % 10) (by omega) (by omega), by rw [bs_size]; simp, by rw [bs_append, dec_more h]⟩
      have hz2 : (bs (decDigits (n / 10))).size ≤ 6 := by rw [bs_size]; exact dec_len (n / 10) (by omega)
      clear ih e10
      go_enter Tryz.func58, Tryz.ntmps58
      go_wp2_with fail
      go_region_with (go_at_call 58; refine (hi _).mono ?_; rintro e w' ⟨rfl, hq⟩; have hs := hq.size; (try simp at hs); have hc := bel hq)
      all_goals
        go_wp2
        go_ret
        refine ⟨rfl, ?_⟩
        first
        | exact Below.next (hq.alloc hs _) (below_drew w) (Nat.le_refl _)
        | exact Below.next hq (((Below.refl _ _).alloc (Nat.le_refl _) _).drew) (by simp)

theorem itoa_nat (n : Nat) : Lib.itoa (n : Int) = decDigits n := by rw [Lib.itoa, if_neg (by omega)]; simp
theorem l1Num_int (n : Int) (h0 : 0 ≤ n) (h1 : n < 1000000) (w : World) : Calls Tryz.prog 58 #[.int .i64 n] w fun e w' => e = .returned (.string (bs (Lib.itoa n))) ∧ Below w.heap.size w w' := by
  obtain ⟨k, rfl⟩ := Int.eq_ofNat_of_zero_le h0
  rw [itoa_nat]
  exact l1Num_any k (by omega) w
theorem itoa_len (n : Int) (h0 : 0 ≤ n) (h1 : n < 1000000) : (Lib.itoa n).length ≤ 6 := by
  obtain ⟨k, rfl⟩ := Int.eq_ofNat_of_zero_le h0
  rw [itoa_nat]
  exact dec_len k (by omega)
/-- The text of eighths. -/
def ptT (n : Int) : List UInt8 := if n % 8 = 0 then Lib.itoa (n / 8) else Lib.itoa (n / 8) ++ 43 :: Lib.itoa (n % 8)
/-- The text of a spot. -/
def spT (s : Sp) : List UInt8 := ptT s.x ++ 44 :: ptT s.y
theorem ptT_len (n : Int) (h0 : 0 ≤ n) (h1 : n < 1000000) : (ptT n).length ≤ 13 := by
  have a := itoa_len (n / 8) (by omega) (by omega)
  have b := itoa_len (n % 8) (by omega) (by omega)
  unfold ptT
  split <;> simp <;> omega
theorem spT_len (s : Sp) (h : isSp s = true) : (spT s).length ≤ 27 := by
  have h1 := isSp_iff.1 h
  have a := ptT_len s.x (by omega) (by omega)
  have b := ptT_len s.y (by omega) (by omega)
  unfold spT
  simp
  omega
/-- An addition of strings of known bytes. -/
theorem bs_lit (l : List UInt8) : ({ data := l.toArray } : ByteArray) = bs l := rfl

set_option maxHeartbeats 1600000 in
set_option maxRecDepth 100000 in
theorem stPart_any (n : Int) (h0 : 0 ≤ n) (h1 : n < 1000000) (w : World) : Calls Tryz.prog 80 #[.int .i64 n] w fun e w' => e = .returned (.string (bs (ptT n))) ∧ Below w.heap.size w w' := by
  have hd : n.tdiv 8 = n / 8 := Int.tdiv_eq_ediv_of_nonneg h0
  have hm : n.tmod 8 = n % 8 := Int.tmod_eq_emod_of_nonneg h0
  have hw1 : IntKind.i64.wrap (n / 8) = n / 8 := IntWalk.i64_in _ (by omega)
  have C1 := Lib.hid (l1Num_int (n / 8) (by omega) (by omega))
  have C2 := Lib.hid (l1Num_int (n % 8) (by omega) (by omega))
  have z1 := itoa_len (n / 8) (by omega) (by omega)
  have z2 := itoa_len (n % 8) (by omega) (by omega)
  rw [← bs_size] at z1 z2
  by_cases h : n % 8 = 0
  · rw [ptT, if_pos h]
    go_enter Tryz.func80, Tryz.ntmps80
    go_wp2_with fail
    refine (C1.out _).mono ?_
    rintro e w1 ⟨rfl, hq⟩
    go_wp2_with fail
    go_ret
    exact ⟨rfl, hq⟩
  · rw [ptT, if_neg h]
    have hb : ((n % 8) == 0) = false := by simpa using h
    go_enter Tryz.func80, Tryz.ntmps80
    go_wp2_with fail
    refine (C1.out _).mono ?_
    rintro e w1 ⟨rfl, hq⟩
    go_wp2_with fail
    refine (C2.out _).mono ?_
    rintro e w2 ⟨rfl, hq2⟩
    go_wp2_with fail
    go_ret
    exact ⟨ret_str (by apply ByteArray.ext; simp [bs]), Below.next hq2 hq hq.size⟩

theorem ptT_int {n : Int} (h0 : 0 ≤ n) (h1 : n ≤ 1280) (w : World) : Calls Tryz.prog 80 #[.int .i64 n] w fun e w' => e = .returned (.string (bs (ptT n))) ∧ Below w.heap.size w w' := stPart_any n h0 (by omega) w
/-- A call in a region that draws its order. -/
theorem hid_regrown {f : FuncId} {args : Array Value} {v : Value} (h : ∀ w, Calls Tryz.prog f args w fun e w' => e = .returned v ∧ Below w.heap.size w w') (w : World) :
    ∀ dd os, Calls Tryz.prog f args (grow (redrawn w dd) os) (fun e w'' => e = .returned v ∧ ∃ p : Regrown, w'' = grow (redrawn w p.d) p.os) := fun _ _ => Calls.regrown_of (h _)

set_option maxHeartbeats 1600000 in
set_option maxRecDepth 100000 in
theorem stText_any (s : Sp) (h : isSp s = true) (w : World) : Calls Tryz.prog 59 #[.agg #[.int .i64 s.x, .int .i64 s.y]] w fun e w' => e = .returned (.string (bs (spT s))) ∧ Below w.heap.size w w' := by
  have h1 := isSp_iff.1 h
  have D1 := Lib.hid (ptT_int (n := s.x) (by omega) (by omega))
  have D2 := Lib.hid (ptT_int (n := s.y) (by omega) (by omega))
  have z1 := ptT_len s.x (by omega) (by omega)
  have z2 := ptT_len s.y (by omega) (by omega)
  rw [← bs_size] at z1 z2
  have HH := Lib.hid h1
  clear h h1
  go_enter Tryz.func59, Tryz.ntmps59
  go_wp2_with fail
  have hb := Blk.new w #[.int .i64 s.x, .int .i64 s.y] 25
  have hq0 : Below w.heap.size w (w.alloc (.cells #[.int .i64 s.x, .int .i64 s.y] 25)) := (Below.refl _ _).alloc (Nat.le_refl _) _
  have HQ := Lib.hid hq0
  clear hq0
  generalize w.alloc (.cells #[.int .i64 s.x, .int .i64 s.y] 25) = w1 at *
  generalize w.heap.size = g at hb ⊢
  have r0 : ∀ dd os, (grow (redrawn w1 dd) os).cell? ⟨g, 0, none⟩ = some (.int .i64 s.x) := cell_regrown (hb.cell 0)
  have r1 : ∀ dd os, (grow (redrawn w1 dd) os).cell? ⟨g, 1, none⟩ = some (.int .i64 s.y) := cell_regrown (hb.cell 1)
  have C1 := Lib.hid (hid_regrown D1.out w1)
  have C2 := Lib.hid (hid_regrown D2.out w1)
  clear hb
  refine wp_region_quiet_below (by kernel_rfl) (by kernel_rfl) ?_
  repeat (first | go_big_quiet_step (first | with_reducible exact C1.out _ _ | with_reducible exact C2.out _ _) | quiet_step (first | with_reducible exact C1.out _ _ | with_reducible exact C2.out _ _))
  refine wpQuiet_nil ?_
  intro _ hw'
  obtain ⟨⟨dq, osq⟩, hw''⟩ := hw'
  subst hw''
  have hq := below_regrown w1 dq osq
  clear C1 C2 r0 r1
  generalize grow (redrawn w1 dq) osq = w2 at *
  go_wp2
  go_ret
  exact ⟨ret_str (by apply ByteArray.ext; simp [bs, spT]), Below.next hq HQ.out HQ.out.size⟩

/-- The text of a sheet: its first line, a row. -/
def hdT (p : Int) (s : Sp) : List UInt8 := [112, 101, 114, 102, 111, 114, 109, 101, 114, 32] ++ (Lib.itoa p ++ 32 :: (spT s ++ [10]))
def rwT (r : Rw) : List UInt8 := Lib.itoa r.c ++ 32 :: (spT r.t ++ [10])
def shT (p : Int) (s : Sp) (L : List Rw) : List UInt8 := hdT p s ++ L.flatMap rwT
theorem hdT_len {p : Int} {s : Sp} (hp : inR p 0 11 = true) (h : isSp s = true) : (hdT p s).length ≤ 60 := by
  have h1 := inR_iff.1 hp
  have a := itoa_len p (by omega) (by omega)
  have b := spT_len s h
  unfold hdT
  simp
  omega
theorem rwT_len {r : Rw} (h : isRw r = true) : (rwT r).length ≤ 40 := by
  have h1 := isRw_iff.1 h
  have a := itoa_len r.c (by omega) (by omega)
  have b := spT_len r.t h1.2
  unfold rwT
  simp
  omega
theorem rws_len : ∀ (L : List Rw), L.all isRw = true → (L.flatMap rwT).length ≤ 40 * L.length
  | [], _ => by simp
  | r :: L, h => by
    simp only [List.all_cons, Bool.and_eq_true] at h
    have a := rwT_len h.1
    have b := rws_len L h.2
    simp only [List.flatMap_cons, List.length_append, List.length_cons]
    omega
theorem rws_take {L : List Rw} {k : Nat} {r : Rw} (h : L[k]? = some r) : (L.take (k + 1)).flatMap rwT = (L.take k).flatMap rwT ++ rwT r := by
  rw [List.take_add_one, h]
  simp
theorem all_take {L : List Rw} (h : L.all isRw = true) (k : Nat) : (L.take k).all isRw = true := by
  rw [List.all_eq_true] at *
  exact fun x hx => h x (List.mem_of_mem_take hx)
theorem ac_len {p : Int} {s : Sp} {L : List Rw} (h : shOk p s L = true) (k : Nat) : (bs (hdT p s ++ (L.take k).flatMap rwT)).size ≤ 400 := by
  obtain ⟨h1, h2, h3, h4⟩ := shOk_iff.1 h
  rw [bs_size, List.length_append]
  have a := hdT_len h1 h2
  have b := rws_len _ (all_take h4 k)
  have c : (L.take k).length ≤ 8 := by simp; omega
  omega

set_option maxHeartbeats 3200000 in
set_option maxRecDepth 100000 in
theorem shText_any (p : Int) (s : Sp) (A : Option Addr) (c : Nat) (L : List Rw) (w : World) (hm : Mem w A (rows L)) (hok : shOk p s L = true) : Calls Tryz.prog 29 #[.agg #[.int .i64 p, .int .i64 s.x, .int .i64 s.y, .slice A L.length c]] w fun e w' =>
    e = .returned (.string (bs (shT p s L))) ∧ Below w.heap.size w w' := by
  have h1 := shOk_iff.1 hok
  have hp := inR_iff.1 h1.1
  have D1 := Lib.hid (l1Num_int p (by omega) (by omega))
  have D2 := Lib.hid (stText_any s h1.2.1)
  have z1 := itoa_len p (by omega) (by omega)
  have z2 := spT_len s h1.2.1
  rw [← bs_size] at z1 z2
  have HL := Lib.hid h1.2.2
  have HO := Lib.hid hok
  have HM := Lib.hid hm
  have hl : L.length ≤ 8 := h1.2.2.1
  clear h1 hp hok hm
  go_enter Tryz.func29, Tryz.ntmps29
  go_wp2_with fail
  have hb := Blk.new w #[.int .i64 p, .int .i64 s.x, .int .i64 s.y, .slice A L.length c] 28
  have hq0 : Below w.heap.size w (w.alloc (.cells #[.int .i64 p, .int .i64 s.x, .int .i64 s.y, .slice A L.length c] 28)) := (Below.refl _ _).alloc (Nat.le_refl _) _
  have HM1 := Lib.hid (HM.out.below hq0)
  have HQ := Lib.hid hq0
  clear hq0 HM
  generalize w.alloc (.cells #[.int .i64 p, .int .i64 s.x, .int .i64 s.y, .slice A L.length c] 28) = w1 at *
  generalize w.heap.size = g at hb ⊢
  have HB := Lib.hid hb
  have r0 : ∀ dd os, (grow (redrawn w1 dd) os).cell? ⟨g, 0, none⟩ = some (.int .i64 p) := cell_regrown (hb.cell 0)
  have r1 : ∀ dd os, (grow (redrawn w1 dd) os).cell? ⟨g, 1, none⟩ = some (.int .i64 s.x) := cell_regrown (hb.cell 1)
  have r2 : ∀ dd os, (grow (redrawn w1 dd) os).cell? ⟨g, 2, none⟩ = some (.int .i64 s.y) := cell_regrown (hb.cell 2)
  have C1 := Lib.hid (hid_regrown D1.out w1)
  have C2 := Lib.hid (hid_regrown D2.out w1)
  clear hb
  refine wp_region_quiet_below (by kernel_rfl) (by kernel_rfl) ?_
  repeat (first | go_big_quiet_step (first | with_reducible exact C1.out _ _ | with_reducible exact C2.out _ _) | quiet_step (first | with_reducible exact C1.out _ _ | with_reducible exact C2.out _ _))
  refine wpQuiet_nil ?_
  intro _ hw'
  obtain ⟨⟨dq, osq⟩, hw''⟩ := hw'
  subst hw''
  have hq := below_regrown w1 dq osq
  clear C1 C2 r0 r1 r2
  generalize grow (redrawn w1 dq) osq = w2 at *
  have HB2 := Lib.hid (HB.out.below hq HB.out.lt)
  have HM2 := Lib.hid (HM1.out.below hq)
  have HQ2 := Lib.hid (Below.next hq HQ.out HQ.out.size)
  have q3 := HB2.out.cell 3
  simp at q3
  clear hq HB HM1 HQ
  go_wp2
  go_loopw [3, 5, 19] (fun t _ i wr => ∃ k : Nat, k ≤ L.length ∧ t = .string (bs (hdT p s ++ (L.take k).flatMap rwT)) ∧ i = .int .i64 k ∧ Below w2.heap.size w2 wr) (fun _ _ i _ => L.length - (intOf i).toNat)
  case atStart => exact ⟨0, by omega, by congr 1; apply ByteArray.ext; simp [bs, hdT], rfl, Below.refl _ _⟩
  case round =>
    obtain ⟨k, hk, rfl, rfl, hb⟩ := hrel
    have HBk := Lib.hid hb
    by_cases hlt : k < L.length
    · obtain ⟨r, hr⟩ := some_of_lt hlt
      obtain ⟨b, off, rfl, x1, x2, x3⟩ := (HM2.out.below hb).row hr
      have hri := all_at HL.out.2 hr
      have hrc := isRw_iff.1 hri
      have E1 := Lib.hid (l1Num_int r.c (by omega) (by omega))
      have E2 := Lib.hid (stText_any r.t hrc.2)
      have z3 := itoa_len r.c (by omega) (by omega)
      have z4 := spT_len r.t hrc.2
      have z5 := ac_len HO.out k
      rw [← bs_size] at z3 z4
      have HS := Lib.hid (show bs (hdT p s ++ (L.take (k + 1)).flatMap rwT) = bs (hdT p s ++ (L.take k).flatMap rwT) ++ bs (rwT r) by rw [rws_take hr, bs_append, List.append_assoc])
      clear hri hrc hr hb
      generalize bs (hdT p s ++ (L.take k).flatMap rwT) = ac at *
      go_wp2_with fail
      have hb := Blk.new wr #[.int .i64 r.c, .int .i64 r.t.x, .int .i64 r.t.y] 46
      have hq0 : Below wr.heap.size wr (wr.alloc (.cells #[.int .i64 r.c, .int .i64 r.t.x, .int .i64 r.t.y] 46)) := (Below.refl _ _).alloc (Nat.le_refl _) _
      have HB3 := Lib.hid (Below.next hq0 HBk.out HBk.out.size)
      clear hq0 HBk x1 x2 x3
      generalize wr.alloc (.cells #[.int .i64 r.c, .int .i64 r.t.x, .int .i64 r.t.y] 46) = w3 at *
      generalize wr.heap.size = g3 at hb ⊢
      have r0 : ∀ dd os, (grow (redrawn w3 dd) os).cell? ⟨g3, 0, none⟩ = some (.int .i64 r.c) := cell_regrown (hb.cell 0)
      have r1 : ∀ dd os, (grow (redrawn w3 dd) os).cell? ⟨g3, 1, none⟩ = some (.int .i64 r.t.x) := cell_regrown (hb.cell 1)
      have r2 : ∀ dd os, (grow (redrawn w3 dd) os).cell? ⟨g3, 2, none⟩ = some (.int .i64 r.t.y) := cell_regrown (hb.cell 2)
      have C1 := Lib.hid (hid_regrown E1.out w3)
      have C2 := Lib.hid (hid_regrown E2.out w3)
      clear hb E1 E2
      refine wp_region_quiet_below (by kernel_rfl) (by kernel_rfl) ?_
      repeat (first | go_big_quiet_step (first | with_reducible exact C1.out _ _ | with_reducible exact C2.out _ _) | quiet_step (first | with_reducible exact C1.out _ _ | with_reducible exact C2.out _ _))
      refine wpQuiet_nil ?_
      intro _ hw'
      obtain ⟨⟨dq, osq⟩, hw''⟩ := hw'
      subst hw''
      have hq := below_regrown w3 dq osq
      clear C1 C2 r0 r1 r2
      have HB4 := Lib.hid (Below.next hq HB3.out HB3.out.size)
      clear hq HB3
      generalize grow (redrawn w3 dq) osq = w4 at *
      go_wp2
      go_roundw
      case rel => exact ⟨k + 1, by omega, by rw [HS.out]; congr 1; apply ByteArray.ext; simp [bs, rwT], by go_num, HB4.out⟩
      case measure => simp [intOf]; omega
    · have HE := Lib.hid (show L.take k = L from List.take_of_length_le (by omega))
      go_wp2
      go_ret
      exact ⟨ret_str (by rw [HE.out]; rfl), Below.next HBk.out HQ2.out HQ2.out.size⟩
end Go.Proofs.YtdmgffcabjpihaaGreatDoor
