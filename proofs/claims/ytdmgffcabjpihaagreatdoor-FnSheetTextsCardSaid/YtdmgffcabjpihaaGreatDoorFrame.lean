/-
  From a walk to the statement: what an argument that can be read as data looks like in memory; the row's last step for a law that answers true and changes nothing that was there.
-/
import Derived.Test.YtdmgffcabjpihaaGreatDoorMem
import Derived.Test.YtdmgffcabjpihaaGreatDoorRows
import Derived.WalkKit
import Derived.ProofKit
import Derived.OpenShut
import Derived.Deep.Slices
import Derived.Deep.Fields
import Derived.ChangeSame
import Derived.Carry
namespace Go.Proofs.YtdmgffcabjpihaaGreatDoor
open Go.ChangeShapes Go.WideShapes Go.ChangeAt Go.RowKit Go.Deep

section
variable {H : Type} {enc : TypeId × Value → H} {P : Program}

theorem trodAll_stays (hl : laidOutB P = true) {W W' : World} (hb : Below W.heap.size W W') : ∀ {ts : List TypeId} {vs : List Value} {ds : List (DataW H)} {ps : List MemPlace},
    (∀ t ∈ ts, P.readableRec t = true ∧ t < P.types.size) → DataW.TrodAll enc P W 0 (fun _ => true) true ts vs ds ps → (∀ x ∈ ps, x.block < W.heap.size) →
    DataW.TrodAll enc P W' 0 (fun b => decide (b < W.heap.size)) true ts vs ds ps
  | [], [], [], _, _, h, _ => h
  | t :: _, _ :: _, _ :: _, _, hT, ⟨p, q, h1, h2, e⟩, hs =>
    ⟨p, q, Below.trod hl (hT t (List.mem_cons.2 (Or.inl rfl))).1 (hT t (List.mem_cons.2 (Or.inl rfl))).2 h1 hb (fun x hx => hs x (by rw [e]; exact List.mem_append_left _ hx)),
      trodAll_stays hl hb (fun t ht => hT t (List.mem_cons.2 (Or.inr ht))) h2 (fun x hx => hs x (by rw [e]; exact List.mem_append_right _ hx)), e⟩

/-- The row's last step. -/
theorem law_post {f : Func} {s : ChangeSpec} {tb : TypeId} {W W' : World} {args : Array Value} {ds gs : List (DataW H)} {before : List MemPlace} (hl : laidOutB P = true)
    (hr : f.resultTypes = #[tb]) (htb : P.underlying tb = some .bool) (hts : f.params.toList.all (fun t => P.readableRec t && decide (t < P.types.size)) = true) (hv : s.vars = [])
    (hW : DataW.Whole enc P f.params.toList s.vars false W args.toList ds gs before) (hfn : (s.fn H (ds ++ [])) = { results := [.lit (.bool true)], args := ds }) (hb : Below W.heap.size W W') :
    s.post enc P f false true false false W args (.bool true) W' := by
  have hW' := hW
  obtain ⟨p, q, hA, hV, hp, hfz, hnd⟩ := hW
  rw [hv] at hV
  have hlt : ∀ x ∈ before, x.block < W.heap.size := fun x hx => hW'.lt x hx
  obtain ⟨rfl, rfl⟩ : gs = [] ∧ q = [] := trodVars_none hV
  rw [List.append_nil] at hp
  subst hp
  refine ⟨ds, [], before, [], before, [], hW', ?_, ?_, ?_, hb.frame _, fun h => by cases h⟩
  · rw [hfn, hr]
    exact trodAll_cons_mk (shut_bool htb _) trodAll_mk0
  · rw [hfn]
    refine trodAll_stays hl hb (fun t ht => ?_) hA hlt
    have := List.all_eq_true.1 hts t ht
    simpa using this
  · rw [hfn, hv]
    rfl

/-- Cells of type e read as data only where they are 'f a', a being fine. -/
def Rd {α : Type} (enc : TypeId × Value → H) (P : Program) (w : World) (e : TypeId) (sz : Nat) (f : α → List Value) (ok : α → Prop) : Prop :=
  P.cellsOf e = sz ∧ (∀ a, (f a).length = sz) ∧ ∀ base spare held fuel cs x, DataW.trod enc P w base spare held fuel e cs = some x → ∃ a, cs = f a ∧ ok a

theorem Rd.conv {w : World} {e : TypeId} {α β : Type} {sz : Nat} {f : α → List Value} {ok : α → Prop} (h : Rd enc P w e sz f ok) (g : α → β) {f' : β → List Value} {ok' : β → Prop} (hl : ∀ b, (f' b).length = sz) (hf : ∀ a, f a = f' (g a)) (ho : ∀ a, ok a → ok' (g a)) : Rd enc P w e sz f' ok' :=
  ⟨h.1, hl, fun base spare held fuel cs x hx => by
    obtain ⟨a, h1, h2⟩ := h.2.2 base spare held fuel cs x hx
    exact ⟨g a, h1.trans (hf a), ho a h2⟩⟩

theorem Rd_int {w : World} {e : TypeId} (he : P.underlying e = some (.int .i64)) (hc : P.cellsOf e = 1) : Rd enc P w e 1 (fun n : Int => [Value.int .i64 n]) okInt :=
  ⟨hc, fun _ => rfl, fun _ _ _ _ _ _ h => by
    obtain ⟨n, h1, _, h3⟩ := DataW.trod_int he h
    refine ⟨n, h1, ?_⟩
    have := bounds_i64 h3
    exact ⟨by omega, by omega⟩⟩

theorem field_at {w : World} {base : Nat} {spare : Nat → Bool} {held : Bool} {n : Nat} {fs : Array Field} {xs : List (DataW H × List MemPlace)} {cs : List Value} (hx : xs.length = fs.size)
    (h : ∀ (i : Nat) (f : Field), fs[i]? = some f → DataW.trod enc P w base spare held n f.type ((cs.drop f.offset).take (P.cellsOf f.type)) = xs[i]?) {i : Nat} {f : Field} (hi : fs[i]? = some f)
    {α : Type} {sz : Nat} {g : α → List Value} {ok : α → Prop} (hr : Rd enc P w f.type sz g ok) : ∃ a, (cs.drop f.offset).take sz = g a ∧ ok a := by
  have hl : i < xs.length := by rw [hx]; exact (Array.getElem?_eq_some_iff.1 hi).1
  have h1 := h i f hi
  rw [List.getElem?_eq_getElem hl, hr.1] at h1
  exact hr.2.2 _ _ _ _ _ _ h1

theorem Rd_struct2 {w : World} {t : TypeId} {f0 f1 : Field} (hs : P.underlying t = some (.struct #[f0, f1])) {α β : Type} {s0 s1 : Nat} {g0 : α → List Value} {g1 : β → List Value} {ok0 : α → Prop} {ok1 : β → Prop}
    (hC : P.cellsOf t = s0 + s1) (o0 : f0.offset = 0) (o1 : f1.offset = s0) (h0 : Rd enc P w f0.type s0 g0 ok0) (h1 : Rd enc P w f1.type s1 g1 ok1) :
    Rd enc P w t (s0 + s1) (fun a : α × β => g0 a.1 ++ g1 a.2) (fun a => ok0 a.1 ∧ ok1 a.2) := by
  refine ⟨hC, fun a => by rw [List.length_append, h0.2.1, h1.2.1], fun base spare held fuel cs x h => ?_⟩
  obtain ⟨xs, n, _, _, hlen, hxs, hg⟩ := DataW.trod_struct hs h
  obtain ⟨a, ha, oka⟩ := field_at hxs hg (i := 0) (f := f0) rfl h0
  obtain ⟨b, hb, okb⟩ := field_at hxs hg (i := 1) (f := f1) rfl h1
  refine ⟨(a, b), ?_, oka, okb⟩
  show cs = g0 a ++ g1 b
  rw [← ha, ← hb, o0, o1, List.drop_zero, List.take_of_length_le (l := cs.drop s0) (by rw [List.length_drop, hlen, hC]; omega), List.take_append_drop]

theorem Rd_struct3 {w : World} {t : TypeId} {f0 f1 f2 : Field} (hs : P.underlying t = some (.struct #[f0, f1, f2])) {α β γ : Type} {s0 s1 s2 : Nat} {g0 : α → List Value} {g1 : β → List Value} {g2 : γ → List Value}
    {ok0 : α → Prop} {ok1 : β → Prop} {ok2 : γ → Prop}
    (hC : P.cellsOf t = s0 + s1 + s2) (o0 : f0.offset = 0) (o1 : f1.offset = s0) (o2 : f2.offset = s0 + s1) (h0 : Rd enc P w f0.type s0 g0 ok0) (h1 : Rd enc P w f1.type s1 g1 ok1) (h2 : Rd enc P w f2.type s2 g2 ok2) :
    Rd enc P w t (s0 + s1 + s2) (fun a : α × β × γ => g0 a.1 ++ g1 a.2.1 ++ g2 a.2.2) (fun a => ok0 a.1 ∧ ok1 a.2.1 ∧ ok2 a.2.2) := by
  refine ⟨hC, fun a => by rw [List.length_append, List.length_append, h0.2.1, h1.2.1, h2.2.1], fun base spare held fuel cs x h => ?_⟩
  obtain ⟨xs, n, _, _, hlen, hxs, hg⟩ := DataW.trod_struct hs h
  obtain ⟨a, ha, oka⟩ := field_at hxs hg (i := 0) (f := f0) rfl h0
  obtain ⟨b, hb, okb⟩ := field_at hxs hg (i := 1) (f := f1) rfl h1
  obtain ⟨c, hc, okc⟩ := field_at hxs hg (i := 2) (f := f2) rfl h2
  refine ⟨(a, b, c), ?_, oka, okb, okc⟩
  show cs = g0 a ++ g1 b ++ g2 c
  rw [← ha, ← hb, ← hc, o0, o1, o2, List.drop_zero, List.take_of_length_le (l := cs.drop (s0 + s1)) (by rw [List.length_drop, hlen, hC]; omega)]
  have e1 : cs.drop (s0 + s1) = (cs.drop s0).drop s1 := by rw [List.drop_drop]
  rw [e1, List.append_assoc, List.take_append_drop, List.take_append_drop]

theorem Rd_struct4 {w : World} {t : TypeId} {f0 f1 f2 f3 : Field} (hs : P.underlying t = some (.struct #[f0, f1, f2, f3])) {α β γ δ : Type} {s0 s1 s2 s3 : Nat} {g0 : α → List Value} {g1 : β → List Value} {g2 : γ → List Value} {g3 : δ → List Value}
    {ok0 : α → Prop} {ok1 : β → Prop} {ok2 : γ → Prop} {ok3 : δ → Prop}
    (hC : P.cellsOf t = s0 + s1 + s2 + s3) (o0 : f0.offset = 0) (o1 : f1.offset = s0) (o2 : f2.offset = s0 + s1) (o3 : f3.offset = s0 + s1 + s2) (h0 : Rd enc P w f0.type s0 g0 ok0) (h1 : Rd enc P w f1.type s1 g1 ok1) (h2 : Rd enc P w f2.type s2 g2 ok2) (h3 : Rd enc P w f3.type s3 g3 ok3) :
    Rd enc P w t (s0 + s1 + s2 + s3) (fun a : α × β × γ × δ => g0 a.1 ++ g1 a.2.1 ++ g2 a.2.2.1 ++ g3 a.2.2.2) (fun a => ok0 a.1 ∧ ok1 a.2.1 ∧ ok2 a.2.2.1 ∧ ok3 a.2.2.2) := by
  refine ⟨hC, fun a => by rw [List.length_append, List.length_append, List.length_append, h0.2.1, h1.2.1, h2.2.1, h3.2.1], fun base spare held fuel cs x h => ?_⟩
  obtain ⟨xs, n, _, _, hlen, hxs, hg⟩ := DataW.trod_struct hs h
  obtain ⟨a, ha, oka⟩ := field_at hxs hg (i := 0) (f := f0) rfl h0
  obtain ⟨b, hb, okb⟩ := field_at hxs hg (i := 1) (f := f1) rfl h1
  obtain ⟨c, hc, okc⟩ := field_at hxs hg (i := 2) (f := f2) rfl h2
  obtain ⟨d, hd, okd⟩ := field_at hxs hg (i := 3) (f := f3) rfl h3
  refine ⟨(a, b, c, d), ?_, oka, okb, okc, okd⟩
  show cs = g0 a ++ g1 b ++ g2 c ++ g3 d
  rw [← ha, ← hb, ← hc, ← hd, o0, o1, o2, o3, List.drop_zero, List.take_of_length_le (l := cs.drop (s0 + s1 + s2)) (by rw [List.length_drop, hlen, hC]; omega)]
  have e1 : cs.drop (s0 + s1) = (cs.drop s0).drop s1 := by rw [List.drop_drop]
  have e2 : cs.drop (s0 + s1 + s2) = ((cs.drop s0).drop s1).drop s2 := by rw [List.drop_drop, List.drop_drop]; congr 1; omega
  rw [e1, e2, List.append_assoc, List.append_assoc, List.take_append_drop, List.take_append_drop, List.take_append_drop]

/-- A slice's header: its address, its capacity, what it holds. -/
structure Hdr (α : Type) where
  A : Option Addr
  c : Nat
  L : List α

def okHdr {α : Type} (w : World) (f : α → List Value) (ok : α → Prop) (h : Hdr α) : Prop := Mem w h.A (h.L.flatMap f) ∧ (∀ a ∈ h.L, ok a) ∧ h.L.length ≤ h.c ∧ h.c ≤ maxLen

theorem exists_list {α : Type} (Q : Nat → α → Prop) : ∀ n : Nat, (∀ i, i < n → ∃ a, Q i a) → ∃ L : List α, L.length = n ∧ ∀ i a, L[i]? = some a → Q i a
  | 0, _ => ⟨[], rfl, fun i a h => by simp at h⟩
  | n + 1, h => by
    obtain ⟨L, hl, hq⟩ := exists_list Q n (fun i hi => h i (by omega))
    obtain ⟨a, ha⟩ := h n (by omega)
    refine ⟨L ++ [a], by simp [hl], fun i b hb => ?_⟩
    rcases Nat.lt_or_ge i L.length with h1 | h1
    · rw [List.getElem?_append_left h1] at hb; exact hq i b hb
    · rw [List.getElem?_append_right h1] at hb
      have : i - L.length = 0 := by
        rcases Nat.eq_zero_or_pos (i - L.length) with h2 | h2
        · exact h2
        · rw [List.getElem?_eq_none (by simp; omega)] at hb; cases hb
      rw [this] at hb
      simp at hb
      subst hb
      have : i = n := by omega
      rw [this]; exact ha

theorem Rd_slice {w : World} {t e : TypeId} (ht : P.underlying t = some (.slice e)) (hct : P.cellsOf t = 1) {α : Type} {sz : Nat} {f : α → List Value} {ok : α → Prop} (hsz : 0 < sz) (hr : Rd enc P w e sz f ok) :
    Rd enc P w t 1 (fun h : Hdr α => [Value.slice h.A h.L.length h.c]) (okHdr w f ok) := by
  refine ⟨hct, fun _ => rfl, fun base spare held fuel cs x h => ?_⟩
  rcases open_slice ht h with ⟨rfl, _⟩ | ⟨a, len, cap, m, n, D, Pl, rfl, _, hl, hm, hmm, _, hi⟩
  · exact ⟨⟨none, 0, []⟩, rfl, Mem.nil _ _, fun _ h => by simp at h, Nat.le_refl _, Nat.zero_le _⟩
  · have hlm : len ≤ m := by rw [hmm]; split <;> omega
    obtain ⟨L, hL, hq⟩ := exists_list (fun i b => ok b ∧ ∀ j, j < sz → w.cell? (a.add (i * sz + j)) = (f b)[j]?) len (fun i hlt => by
      obtain ⟨cs', hc, htr⟩ := hi i (by omega)
      rw [hr.1] at hc
      obtain ⟨b, hb, okb⟩ := hr.2.2 _ _ _ _ _ _ htr
      obtain ⟨_, hcl, hat⟩ := World.cells?_some hc
      refine ⟨b, okb, fun j hj => ?_⟩
      rw [← Go.Deep.add_add, hat j hj, hb])
    refine ⟨⟨some a, cap, L⟩, by show _ = [Value.slice (some a) L.length cap]; rw [hL], ?_, fun b hb => ?_, by simpa [hL] using hl, hm⟩
    · intro hne
      have hpos : 0 < L.length := by
        rcases Nat.eq_zero_or_pos L.length with h0 | h0
        · have : L = [] := List.eq_nil_of_length_eq_zero h0
          subst this; exact absurd rfl hne
        · exact h0
      have hall : ∀ j u, (L.flatMap f)[j]? = some u → w.cell? (a.add j) = some u := by
        intro j u hu
        have hj : j < L.length * sz := by rw [← flat_len f sz hr.2.1 L]; exact (List.getElem?_eq_some_iff.1 hu).1
        have hk : j / sz < L.length := (Nat.div_lt_iff_lt_mul hsz).2 hj
        obtain ⟨b, hb⟩ := some_of_lt hk
        have e1 : j / sz * sz + j % sz = j := by rw [Nat.mul_comm]; exact Nat.div_add_mod j sz
        have h1 := (hq _ b hb).2 (j % sz) (Nat.mod_lt _ hsz)
        have h2 := flat_get f sz hr.2.1 L _ b hb (j % sz) (Nat.mod_lt _ hsz)
        rw [e1] at h1 h2
        rw [h1, ← h2, hu]
      obtain ⟨b, off, spot⟩ := a
      have hspot : spot = none := by
        have hl0 : 0 < (L.flatMap f).length := by rw [flat_len f sz hr.2.1 L]; exact Nat.mul_pos hpos hsz
        have h0 := hall 0 _ (List.getElem?_eq_getElem hl0)
        simpa [Addr.add] using World.cell?_spot h0
      subst hspot
      exact ⟨b, off, rfl, fun j u hu => by have := hall j u hu; rwa [Addr.add_lit] at this⟩
    · obtain ⟨i, hi', hb'⟩ := List.getElem_of_mem hb
      exact (hq i b (by rw [List.getElem?_eq_getElem hi', hb'])).1

/-- An argument by value. -/
theorem open_rd {w : World} {t : TypeId} {α : Type} {sz : Nat} {f : α → List Value} {ok : α → Prop} (hr : Rd enc P w t sz f ok) {base : Nat} {spare : Nat → Bool} {held : Bool} {v : Value} {d : DataW H} {p : List MemPlace}
    (h : DataW.Trod enc P w base spare held t v d p) : ∃ a, v.cells.toList = f a ∧ ok a := by
  obtain ⟨fuel, hf⟩ := h
  exact hr.2.2 _ _ _ _ _ _ hf
theorem open_rd_int {r : Reach} {b0 : Nat} {w : World} {t : TypeId} (ht : P.underlying t = some (.int .i64)) (hc : P.cellsOf t = 1) {base : Nat} {spare : Nat → Bool} {held : Bool} {v : Value} {d : DataW H} {p : List MemPlace}
    (hv : Value.okWide P w r b0 t v) (h : DataW.Trod enc P w base spare held t v d p) : ∃ n : Int, v = .int .i64 n ∧ okInt n := by
  obtain ⟨n, rfl⟩ := okWide_int ht hv
  obtain ⟨a, h1, h2⟩ := open_rd (Rd_int (enc := enc) (w := w) ht hc) h
  simp [Value.cells] at h1
  exact ⟨n, rfl, h1 ▸ h2⟩
theorem open_rd_struct {r : Reach} {b0 : Nat} {w : World} {t : TypeId} {fs : Array Field} (ht : P.underlying t = some (.struct fs)) {α : Type} {sz : Nat} {f : α → List Value} {ok : α → Prop} (hr : Rd enc P w t sz f ok)
    {base : Nat} {spare : Nat → Bool} {held : Bool} {v : Value} {d : DataW H} {p : List MemPlace} (hv : Value.okWide P w r b0 t v) (h : DataW.Trod enc P w base spare held t v d p) : ∃ a, v = .agg (f a).toArray ∧ ok a := by
  obtain ⟨cs, rfl, _⟩ := okWide_struct ht hv
  obtain ⟨a, h1, h2⟩ := open_rd hr h
  refine ⟨a, ?_, h2⟩
  simp only [Value.cells] at h1
  rw [← h1]
theorem open_rd_slice {r : Reach} {b0 : Nat} {w : World} {t e : TypeId} (ht : P.underlying t = some (.slice e)) (hct : P.cellsOf t = 1) {α : Type} {sz : Nat} {f : α → List Value} {ok : α → Prop} (hsz : 0 < sz) (hr : Rd enc P w e sz f ok)
    {base : Nat} {spare : Nat → Bool} {held : Bool} {v : Value} {d : DataW H} {p : List MemPlace} (hv : Value.okWide P w r b0 t v) (h : DataW.Trod enc P w base spare held t v d p) :
    ∃ (A : Option Addr) (c : Nat) (L : List α), v = .slice A L.length c ∧ Mem w A (L.flatMap f) ∧ (∀ a ∈ L, ok a) ∧ L.length ≤ c ∧ c ≤ maxLen := by
  obtain ⟨a0, len, cap, rfl⟩ := okWide_slice ht hv
  obtain ⟨⟨A, c, L⟩, h1, h2⟩ := open_rd (Rd_slice ht hct hsz hr) h
  simp [Value.cells] at h1
  obtain ⟨rfl, rfl, rfl⟩ := h1
  exact ⟨_, _, L, rfl, h2⟩

/-! The types of this program. -/
theorem cell_int : Tryz.prog.cellsOf 3 = 1 := by kernel_rfl
theorem Rd_i (enc : TypeId × Value → H) (w : World) : Rd enc Tryz.prog w 3 1 (fun n : Int => [Value.int .i64 n]) okInt := Rd_int Tryz.underlying3 cell_int
end
end Go.Proofs.YtdmgffcabjpihaaGreatDoor
