/-
  Terms in memory: a slice of (coefficient, slice of factors).
-/
import Derived.Test.YbxaawEnc
set_option linter.unusedVariables false
set_option linter.unusedSimpArgs false
namespace Go.Mw

/-! ### pairs of ints -/
def prE (t : Int × Int) : List Value := [.int .i64 t.1, .int .i64 t.2]
def prC (a : List (Int × Int)) : List Value := a.flatMap prE
theorem prE_len (t : Int × Int) : (prE t).length = 2 := rfl
theorem pr_len (a : List (Int × Int)) : (prC a).length = a.length * 2 := fm_length prE_len a
theorem pr_get (a : List (Int × Int)) (k : Nat) (t : Int × Int) (h : a[k]? = some t) : ∀ j v, ([Value.int .i64 t.1, .int .i64 t.2])[j]? = some v → (prC a)[k * 2 + j]? = some v := fm_get prE_len a k t h
theorem nth_of_lt {α : Type} (a : List α) (k : Nat) (h : k < a.length) : ∃ x, a[k]? = some x := ⟨a[k], by simp [h]⟩
theorem take_put_next {α : Type} (a c : List α) (k : Nat) (x : α) (hc : c.length = a.length) (hx : a[k]? = some x) (h : c.take k = a.take k) : (c.set k x).take (k + 1) = a.take (k + 1) := by
  have hlt := (List.getElem?_eq_some_iff.1 hx).1
  have e : a[k] = x := by simpa [hlt] using hx
  rw [List.take_succ_eq_append_getElem (by simp; omega), List.take_succ_eq_append_getElem hlt, List.take_set, List.set_eq_of_length_le (by simp; omega), h, e]
  simp
theorem take_both_next {α : Type} {a b : List α} {k : Nat} {x : α} (h : a.take k = b.take k) (ha : a[k]? = some x) (hb : b[k]? = some x) : a.take (k + 1) = b.take (k + 1) := by
  obtain ⟨l1, e1⟩ := List.getElem?_eq_some_iff.1 ha
  obtain ⟨l2, e2⟩ := List.getElem?_eq_some_iff.1 hb
  rw [List.take_succ_eq_append_getElem l1, List.take_succ_eq_append_getElem l2, h, e1, e2]
theorem put_split {α : Type} (f : α → α) (a : List α) (k : Nat) (x : α) (hx : a[k]? = some x) : ((a.take k).map f ++ a.drop k).set k (f x) = (a.take (k + 1)).map f ++ a.drop (k + 1) := by
  have hlt := (List.getElem?_eq_some_iff.1 hx).1
  have e : a[k] = x := by simpa [hlt] using hx
  rw [List.set_append_right _ _ (by simp; omega), List.take_succ_eq_append_getElem hlt, List.drop_eq_getElem_cons hlt, e]
  have h0 : k - ((a.take k).map f).length = 0 := by simp; omega
  rw [h0]
  simp
theorem nth_split {α : Type} (f : α → α) (a : List α) (k : Nat) (x : α) (hx : a[k]? = some x) : ((a.take k).map f ++ a.drop k)[k]? = some x := by
  have hlt := (List.getElem?_eq_some_iff.1 hx).1
  rw [List.getElem?_append_right (by simp; omega)]
  have h0 : k - ((a.take k).map f).length = 0 := by simp; omega
  rw [h0, List.getElem?_drop]
  simpa using hx
theorem len_split {α : Type} (f : α → α) (a : List α) (k : Nat) : ((a.take k).map f ++ a.drop k).length = a.length := by simp; omega
theorem split_zero {α : Type} (f : α → α) (a : List α) : (a.take 0).map f ++ a.drop 0 = a := by simp
theorem split_all {α : Type} (f : α → α) (a : List α) (k : Nat) (hk : a.length ≤ k) : (a.take k).map f ++ a.drop k = a.map f := by
  rw [List.take_of_length_le hk, List.drop_eq_nil_of_le hk, List.append_nil]
/-- one cell of one element -/
theorem fm_put1 {α : Type} {enc : α → List Value} {sz : Nat} (h : ∀ x, (enc x).length = sz) (sp : List Value) (a : List α) (k j : Nat) (x y : α) (u : Value) (hk : a[k]? = some x) (hj : j < sz) (hy : enc y = (enc x).set j u) :
    putAt (a.flatMap enc ++ sp) (k * sz + j) [u] = (a.set k y).flatMap enc ++ sp := by
  have hlt := (List.getElem?_eq_some_iff.1 hk).1
  have hl := fm_length h a
  have hb : k * sz + j < a.length * sz := by
    have : (k + 1) * sz ≤ a.length * sz := Nat.mul_le_mul_right _ hlt
    rw [Nat.add_mul] at this; omega
  rw [putAt_one _ _ _ (by simp [hl]; omega)]
  have h1 := fm_put h sp a k y hlt
  rw [← h1]
  apply List.ext_getElem?
  intro i
  have hle : k * sz + (enc y).length ≤ (a.flatMap enc ++ sp).length := by
    have : (k + 1) * sz ≤ a.length * sz := Nat.mul_le_mul_right _ hlt
    rw [Nat.add_mul] at this
    simp [hl, h]; omega
  by_cases hi : k * sz ≤ i ∧ i < k * sz + sz
  · obtain ⟨q, rfl⟩ : ∃ q, i = k * sz + q := ⟨i - k * sz, by omega⟩
    rw [putAt_in hle (by rw [h]; omega), hy]
    have hq : q < (enc x).length := by rw [h]; omega
    by_cases hqj : q = j
    · subst hqj
      rw [List.getElem?_set_self (by simp [hl]; omega), List.getElem?_set_self hq]
    · rw [List.getElem?_set_ne (by omega), List.getElem?_set_ne (by omega)]
      rw [List.getElem?_append_left (by rw [hl]; have : (k + 1) * sz ≤ a.length * sz := Nat.mul_le_mul_right _ hlt; rw [Nat.add_mul] at this; omega)]
      obtain ⟨v, hv⟩ := nth_of_lt (enc x) q hq
      rw [hv]
      exact fm_get h a k x hk q v hv
  · rw [putAt_out hle (by rw [h]; omega), List.getElem?_set_ne (by omega)]

/-! ### slices that are read, their block in [lo, hi) -/
structure Rr (w : World) (lo hi sz : Nat) (v : Value) (n : Nat) (xs : List Value) : Prop where
  len : xs.length = n * sz
  form : ∃ a c, v = .slice a n c ∧ (n = 0 ∨ ∃ b o, a = some ⟨b, o, none⟩ ∧ lo ≤ b ∧ b < hi ∧ Cells w b o xs)
/-- only blocks of [lo, hi) and new ones may differ -/
structure Rg (lo hi : Nat) (w w' : World) : Prop where
  os : w'.os = w.os
  tape : w'.tape = w.tape
  output : w'.output = w.output
  size : w.heap.size ≤ w'.heap.size
  block : ∀ k, k < w.heap.size → ¬ (lo ≤ k ∧ k < hi) → w'.heap[k]? = w.heap[k]?
theorem Rg.refl (lo hi : Nat) (w : World) : Rg lo hi w w := ⟨rfl, rfl, rfl, Nat.le_refl _, fun _ _ _ => rfl⟩
theorem Rg.trans {lo hi : Nat} {a b c : World} (h : Rg lo hi a b) (k : Rg lo hi b c) : Rg lo hi a c :=
  ⟨k.os.trans h.os, k.tape.trans h.tape, k.output.trans h.output, Nat.le_trans h.size k.size, fun i hi' hn => (k.block i (Nat.lt_of_lt_of_le hi' h.size) hn).trans (h.block i hi' hn)⟩
theorem Rg.ext {w w' : World} (h : Ext w.heap.size w w') (lo hi : Nat) : Rg lo hi w w' := ⟨h.os, h.tape, h.output, h.size, fun k hk _ => h.block k hk⟩
theorem Rg.grown {w w' : World} {lo hi g : Nat} (h : w.grownBy w' (some g)) (hg : lo ≤ g ∧ g < hi) : Rg lo hi w w' :=
  ⟨h.os, h.tape, h.output, h.size, fun k hk hn => h.block k hk (fun e => by simp only [Option.some.injEq] at e; subst e; exact hn hg)⟩
theorem Rg.grownO {w w' : World} {lo hi : Nat} {r : Option Nat} (h : w.grownBy w' r) (hg : ∀ g, r = some g → lo ≤ g ∧ g < hi) : Rg lo hi w w' :=
  ⟨h.os, h.tape, h.output, h.size, fun k hk hn => h.block k hk (fun e => hn (hg k e.symm))⟩
theorem Rg.set {w : World} {lo hi g : Nat} (hg : lo ≤ g ∧ g < hi) (e : TypeId) (cs : List Value) : Rg lo hi w (setB w g e cs) := Rg.grown grown_set hg
theorem Rg.drew {a w : World} {lo hi : Nat} (h : Rg lo hi a w) : Rg lo hi a w.drew := ⟨h.os, h.tape, h.output, h.size, h.block⟩
theorem Ext.next {a w w' : World} (h : Ext a.heap.size a w) (k : Ext w.heap.size w w') : Ext a.heap.size a w' := h.trans (k.low h.size)
theorem Ext.nextR {a w w' : World} {lo hi : Nat} (h : Ext a.heap.size a w) (k : Rg lo hi w w') (hlo : a.heap.size ≤ lo) : Ext a.heap.size a w' :=
  h.trans ⟨k.os, k.tape, k.output, k.size, fun i hi => k.block i (Nat.lt_of_lt_of_le hi h.size) (by omega)⟩
theorem Ext.addNew {a w : World} (h : Ext a.heap.size a w) (e : TypeId) (cs : List Value) : Ext a.heap.size a (addB w e cs) := h.add h.size e cs

theorem Rr.rs {w : World} {lo hi sz n : Nat} {v : Value} {xs : List Value} (h : Rr w lo hi sz v n xs) : Rs w sz v n xs := by
  obtain ⟨a, c, hv, hf⟩ := h.form
  exact ⟨h.len, a, c, hv, or_map hf id fun ⟨b, o, ha, _, _, hc⟩ => ⟨b, o, ha, hc⟩⟩
theorem Rr.nil (w : World) (lo hi sz c : Nat) (a : Option Addr) : Rr w lo hi sz (.slice a 0 c) 0 [] := ⟨by simp, a, c, rfl, .inl rfl⟩
theorem Rr.le {w w' : World} {lo hi sz n : Nat} {v : Value} {xs : List Value} (h : Rr w lo hi sz v n xs) (hle : LeC w w') : Rr w' lo hi sz v n xs := by
  obtain ⟨a, c, hv, hf⟩ := h.form
  exact ⟨h.len, a, c, hv, or_map hf id fun ⟨b, o, ha, h1, h2, hc⟩ => ⟨b, o, ha, h1, h2, hc.le hle⟩⟩
theorem Rr.ext {w w' : World} {lo hi sz n : Nat} {v : Value} {xs : List Value} (h : Rr w lo hi sz v n xs) (he : Ext w.heap.size w w') : Rr w' lo hi sz v n xs := h.le he.leC
theorem Rr.rg {w w' : World} {lo hi sz n a b : Nat} {v : Value} {xs : List Value} (h : Rr w lo hi sz v n xs) (hr : Rg a b w w') (hd : hi ≤ a ∨ b ≤ lo) : Rr w' lo hi sz v n xs := by
  obtain ⟨ad, c, hv, hf⟩ := h.form
  refine ⟨h.len, ad, c, hv, or_map hf id fun ⟨g, o, ha, h1, h2, hc⟩ => ⟨g, o, ha, h1, h2, ⟨fun i u hu => ?_⟩⟩⟩
  have h3 := hc.at_ i u hu
  have h4 := World.block_lt_of_cell? w _ h3
  have h5 := hr.block g h4 (by omega)
  simpa [World.cell?, h5] using h3
theorem Rr.wide {w : World} {lo hi lo' hi' sz n : Nat} {v : Value} {xs : List Value} (h : Rr w lo hi sz v n xs) (hl : lo' ≤ lo) (hh : hi ≤ hi') : Rr w lo' hi' sz v n xs := by
  obtain ⟨a, c, hv, hf⟩ := h.form
  exact ⟨h.len, a, c, hv, or_map hf id fun ⟨b, o, ha, h1, h2, hc⟩ => ⟨b, o, ha, by omega, by omega, hc⟩⟩
theorem Rr.of_own {w : World} {lo hi sz n : Nat} {e : TypeId} {v : Value} {xs : List Value} (h : w.ownsRow lo e sz v n xs) (hlt : ∀ k, v.ownBlock = some k → k < hi) : Rr w lo hi sz v n xs := by
  rcases own_slc h with ⟨rfl, rfl, rfl⟩ | ⟨g, cap, sp, hB, hs⟩
  · exact Rr.nil _ _ _ _ _ _
  · refine ⟨h.1, _, cap, hs.val, .inr ⟨g, 0, rfl, hB, hlt g (by rw [hs.val]; rfl), ⟨fun i u hu => ?_⟩⟩⟩
    exact hs.bl.cells.at_ i u (by rw [List.getElem?_append_left (List.getElem?_eq_some_iff.1 hu).1]; exact hu)
theorem Rr.of_bl {w : World} {b lo hi sz n c : Nat} {e : TypeId} {cs : List Value} (h : Bl w b e cs) (hl : cs.length = n * sz) (h1 : lo ≤ b) (h2 : b < hi) : Rr w lo hi sz (.slice (some ⟨b, 0, none⟩) n c) n cs :=
  ⟨hl, _, c, rfl, .inr ⟨b, 0, rfl, h1, h2, h.cells⟩⟩

/-! ### owned rows -/
theorem own_same {w w' : World} {B e sz n : Nat} {v : Value} {xs : List Value} (h : w.ownsRow B e sz v n xs) (hs : ∀ k, v.ownBlock = some k → w'.heap[k]? = w.heap[k]?) : w'.ownsRow B e sz v n xs := by
  refine ⟨h.1, or_map h.2 id fun ⟨g, cap, cur, hv, hB, hg, hr⟩ => ⟨g, cap, cur, hv, hB, ?_, hr⟩⟩
  rw [hs g (by rw [hv]; rfl)]; exact hg
theorem own_low {w : World} {B B' e sz n : Nat} {v : Value} {xs : List Value} (h : w.ownsRow B e sz v n xs) (hB : B' ≤ B) : w.ownsRow B' e sz v n xs :=
  ⟨h.1, or_map h.2 id fun ⟨g, cap, cur, hv, hb, hr⟩ => ⟨g, cap, cur, hv, Nat.le_trans hB hb, hr⟩⟩
theorem own_from {w : World} {B B' e sz n : Nat} {v : Value} {xs : List Value} (h : w.ownsRow B e sz v n xs) (hB : ∀ k, v.ownBlock = some k → B' ≤ k) : w.ownsRow B' e sz v n xs :=
  ⟨h.1, or_map h.2 id fun ⟨g, cap, cur, hv, hb, hr⟩ => ⟨g, cap, cur, hv, hB g (by rw [hv]; rfl), hr⟩⟩
/-- writing element k of an owned row -/
theorem own_put {w : World} {B e sz : Nat} {v : Value} {α : Type} {enc : α → List Value} (henc : ∀ x, (enc x).length = sz) {a : List α} (h : w.ownsRow B e sz v a.length (a.flatMap enc)) {k : Nat} (hk : k < a.length) :
    ∃ g cap sp, v = .slice (some ⟨g, 0, none⟩) a.length cap ∧ v.ownBlock = some g ∧ B ≤ g ∧ g < w.heap.size ∧ Bl w g e (a.flatMap enc ++ sp) ∧ (a.flatMap enc ++ sp).length = cap * sz ∧ a.length ≤ cap ∧
      ∀ (w' : World) (b : List α), b.length = a.length → Bl w' g e (b.flatMap enc ++ sp) → w'.ownsRow B e sz v a.length (b.flatMap enc) := by
  rcases own_slc h with ⟨_, h0, _⟩ | ⟨g, cap, sp, hB, hs⟩
  · omega
  · refine ⟨g, cap, sp, hs.val, by rw [hs.val]; rfl, hB, hs.bl.lt, hs.bl, hs.size, hs.capn, fun w' b hb hbl => ?_⟩
    refine Slc.own (g := g) (cap := cap) (sp := sp) ⟨hs.val, hbl, by rw [fm_length henc, hb], hs.capn, hs.capm, ?_⟩ hB
    have := hs.size
    rw [List.length_append, fm_length henc] at this ⊢
    rw [hb]; exact this
theorem own_block_lt {w : World} {B e sz n : Nat} {v : Value} {xs : List Value} (h : w.ownsRow B e sz v n xs) {k : Nat} (hk : v.ownBlock = some k) : B ≤ k ∧ k < w.heap.size := h.lt k hk

/-! ### terms -/
abbrev Lt := Int × Value × List (Int × Int)
abbrev PT := Int × List (Int × Int)
def ltE (t : Lt) : List Value := [.int .i64 t.1, t.2.1]
theorem ltE_len (t : Lt) : (ltE t).length = 2 := rfl
def pol (L : List Lt) : List PT := L.map fun t => (t.1, t.2.2)
theorem pol_length (L : List Lt) : (pol L).length = L.length := by simp [pol]
theorem pol_get {L : List Lt} {k : Nat} {t : Lt} (h : L[k]? = some t) : (pol L)[k]? = some (t.1, t.2.2) := by simp [pol, h]
theorem lt_get (a : List Lt) (k : Nat) (t : Lt) (h : a[k]? = some t) : ∀ j v, ([Value.int .i64 t.1, t.2.1])[j]? = some v → (a.flatMap ltE)[k * 2 + j]? = some v := fm_get ltE_len a k t h
theorem lt_len (a : List Lt) : (a.flatMap ltE).length = a.length * 2 := fm_length ltE_len a

structure Tl (w : World) (lo hi : Nat) (v : Value) (L : List Lt) : Prop where
  top : Rr w lo hi 2 v L.length (L.flatMap ltE)
  sub : ∀ t ∈ L, Rr w lo hi 2 t.2.1 t.2.2.length (prC t.2.2)
theorem Tl.le {w w' : World} {lo hi : Nat} {v : Value} {L : List Lt} (h : Tl w lo hi v L) (hle : LeC w w') : Tl w' lo hi v L := ⟨h.top.le hle, fun t ht => (h.sub t ht).le hle⟩
theorem Tl.ext {w w' : World} {lo hi : Nat} {v : Value} {L : List Lt} (h : Tl w lo hi v L) (he : Ext w.heap.size w w') : Tl w' lo hi v L := h.le he.leC
theorem Tl.rg {w w' : World} {lo hi a b : Nat} {v : Value} {L : List Lt} (h : Tl w lo hi v L) (hr : Rg a b w w') (hd : hi ≤ a ∨ b ≤ lo) : Tl w' lo hi v L := ⟨h.top.rg hr hd, fun t ht => (h.sub t ht).rg hr hd⟩
theorem Tl.wide {w : World} {lo hi lo' hi' : Nat} {v : Value} {L : List Lt} (h : Tl w lo hi v L) (hl : lo' ≤ lo) (hh : hi ≤ hi') : Tl w lo' hi' v L := ⟨h.top.wide hl hh, fun t ht => (h.sub t ht).wide hl hh⟩
theorem Tl.form {w : World} {lo hi : Nat} {v : Value} {L : List Lt} (h : Tl w lo hi v L) : ∃ a c, v = .slice a L.length c ∧ (L.length = 0 ∨ ∃ b o, a = some ⟨b, o, none⟩ ∧ lo ≤ b ∧ b < hi ∧ Cells w b o (L.flatMap ltE)) := h.top.form
theorem Tl.nil (w : World) (lo hi c : Nat) (a : Option Addr) : Tl w lo hi (.slice a 0 c) [] := ⟨Rr.nil _ _ _ _ _ _, fun t ht => by cases ht⟩
/-- the k-th term's cells -/
theorem Tl.cells {w : World} {b o k : Nat} {L : List Lt} {t : Lt} (hc : Cells w b o (L.flatMap ltE)) (ht : L[k]? = some t) : Cells w b (o + k * 2) [.int .i64 t.1, t.2.1] := hc.sub (k * 2) _ (lt_get L k t ht)
theorem Tl.nth {w : World} {lo hi k : Nat} {v : Value} {L : List Lt} (h : Tl w lo hi v L) {t : Lt} (ht : L[k]? = some t) : ∃ a c, t.2.1 = .slice a t.2.2.length c ∧ (t.2.2.length = 0 ∨ ∃ b o, a = some ⟨b, o, none⟩ ∧ lo ≤ b ∧ b < hi ∧ Cells w b o (prC t.2.2)) :=
  (h.sub t (List.mem_of_getElem? ht)).form

structure OwnT (w : World) (lo hi : Nat) (eT eF : TypeId) (v : Value) (L : List Lt) : Prop where
  top : w.ownsRow lo eT 2 v L.length (L.flatMap ltE)
  sub : ∀ t ∈ L, w.ownsRow lo eF 2 t.2.1 t.2.2.length (prC t.2.2)
  lt : ∀ k, v.ownBlock = some k → k < hi
  subLt : ∀ t ∈ L, ∀ k, t.2.1.ownBlock = some k → k < hi
  ne : ∀ t ∈ L, ∀ k, t.2.1.ownBlock = some k → v.ownBlock ≠ some k
  nd : ∀ (i j : Nat) (t u : Lt), L[i]? = some t → L[j]? = some u → i ≠ j → ∀ k, t.2.1.ownBlock = some k → u.2.1.ownBlock ≠ some k
section
variable {w w' : World} {lo hi : Nat} {eT eF : TypeId} {v : Value} {L : List Lt}
theorem OwnT.nil (w : World) (lo hi : Nat) (eT eF : TypeId) : OwnT w lo hi eT eF (.slice none 0 0) [] :=
  ⟨World.ownsRow_nil _ _ _ _, fun t ht => (by cases ht), fun k hk => by simp [Value.ownBlock] at hk, fun t ht => (by cases ht), fun t ht => (by cases ht), fun i j t u ht => by simp at ht⟩
theorem OwnT.tl (h : OwnT w lo hi eT eF v L) : Tl w lo hi v L := ⟨Rr.of_own h.top h.lt, fun t ht => Rr.of_own (h.sub t ht) (h.subLt t ht)⟩
theorem OwnT.same (h : OwnT w lo hi eT eF v L) (hs : ∀ k, lo ≤ k → k < hi → k < w.heap.size → w'.heap[k]? = w.heap[k]?) : OwnT w' lo hi eT eF v L :=
  ⟨own_same h.top fun k hk => hs k (own_block_lt h.top hk).1 (h.lt k hk) (own_block_lt h.top hk).2, fun t ht => own_same (h.sub t ht) fun k hk => hs k (own_block_lt (h.sub t ht) hk).1 (h.subLt t ht k hk) (own_block_lt (h.sub t ht) hk).2, h.lt, h.subLt, h.ne, h.nd⟩
theorem OwnT.ext (h : OwnT w lo hi eT eF v L) (he : Ext w.heap.size w w') : OwnT w' lo hi eT eF v L := h.same fun k _ _ hk => he.block k hk
theorem OwnT.rg {a b : Nat} (h : OwnT w lo hi eT eF v L) (hr : Rg a b w w') (hd : hi ≤ a ∨ b ≤ lo) : OwnT w' lo hi eT eF v L := h.same fun k h1 h2 hk => hr.block k hk (by omega)
theorem OwnT.wide {hi' : Nat} (h : OwnT w lo hi eT eF v L) (hh : hi ≤ hi') : OwnT w lo hi' eT eF v L :=
  ⟨h.top, h.sub, fun k hk => Nat.lt_of_lt_of_le (h.lt k hk) hh, fun t ht k hk => Nat.lt_of_lt_of_le (h.subLt t ht k hk) hh, h.ne, h.nd⟩
/-- the factors of term i are written -/
theorem OwnT.setSub (h : OwnT w lo hi eT eF v L) {i : Nat} {t : Lt} (hi' : L[i]? = some t) {fs : List (Int × Int)} (hg : w.grownBy w' t.2.1.ownBlock) (hn : w'.ownsRow lo eF 2 t.2.1 fs.length (prC fs)) : OwnT w' lo hi eT eF v (L.set i (t.1, t.2.1, fs)) := by
  have hlt := (List.getElem?_eq_some_iff.1 hi').1
  have hti := List.mem_of_getElem? hi'
  have hfm : (L.set i (t.1, t.2.1, fs)).flatMap ltE = L.flatMap ltE := by
    have h1 := fm_put ltE_len [] L i t hlt
    have h2 := fm_put ltE_len [] L i (t.1, t.2.1, fs) hlt
    rw [List.append_nil, List.append_nil] at h1 h2
    rw [← h2]
    have e : ltE (t.1, t.2.1, fs) = ltE t := rfl
    rw [e, h1]
    congr 1
    apply List.ext_getElem?
    intro j
    by_cases hj : j = i
    · subst hj; rw [List.getElem?_set_self hlt, hi']
    · rw [List.getElem?_set_ne (by omega)]
  have hval : ∀ j u, (L.set i (t.1, t.2.1, fs))[j]? = some u → ∃ u', L[j]? = some u' ∧ u'.2.1 = u.2.1 ∧ (j ≠ i → u' = u) := by
    intro j u hu
    by_cases hj : j = i
    · subst hj
      rw [List.getElem?_set_self hlt] at hu
      simp only [Option.some.injEq] at hu
      subst hu
      exact ⟨t, hi', rfl, fun h => absurd rfl h⟩
    · rw [List.getElem?_set_ne (by omega)] at hu
      exact ⟨u, hu, rfl, fun _ => rfl⟩
  have hmem : ∀ u ∈ L.set i (t.1, t.2.1, fs), ∃ j, (L.set i (t.1, t.2.1, fs))[j]? = some u := fun u hu => List.getElem?_of_mem hu
  refine ⟨?_, ?_, h.lt, ?_, ?_, ?_⟩
  · rw [hfm, List.length_set]
    refine h.top.kept hg ?_
    cases hv : t.2.1.ownBlock with
    | none => cases v.ownBlock <;> simp
    | some k => exact .inr (h.ne t hti k hv)
  · intro u hu
    obtain ⟨j, hj⟩ := hmem u hu
    by_cases hji : j = i
    · subst hji
      rw [List.getElem?_set_self hlt] at hj
      simp only [Option.some.injEq] at hj
      subst hj
      exact hn
    · obtain ⟨u', hu', _, he⟩ := hval j u hj
      have := he hji
      subst this
      refine (h.sub u' (List.mem_of_getElem? hu')).kept hg ?_
      cases hv : u'.2.1.ownBlock with
      | none => exact .inl rfl
      | some k => exact .inr (fun e => h.nd j i u' t hu' hi' hji k hv e.symm)
  · intro u hu k hk
    obtain ⟨j, hj⟩ := hmem u hu
    obtain ⟨u', hu', he, _⟩ := hval j u hj
    exact h.subLt u' (List.mem_of_getElem? hu') k (by rw [he]; exact hk)
  · intro u hu k hk
    obtain ⟨j, hj⟩ := hmem u hu
    obtain ⟨u', hu', he, _⟩ := hval j u hj
    exact h.ne u' (List.mem_of_getElem? hu') k (by rw [he]; exact hk)
  · intro a b x y hx hy hab k hk
    obtain ⟨x', hx', hex, _⟩ := hval a x hx
    obtain ⟨y', hy', hey, _⟩ := hval b y hy
    rw [← hey]
    exact h.nd a b x' y' hx' hy' hab k (by rw [hex]; exact hk)
/-- the row of terms is written; every term's slice of factors stays -/
theorem OwnT.setTop (h : OwnT w lo hi eT eF v L) {L' : List Lt} (hm : L'.map (·.2) = L.map (·.2)) (hg : w.grownBy w' v.ownBlock) (hn : w'.ownsRow lo eT 2 v L'.length (L'.flatMap ltE)) : OwnT w' lo hi eT eF v L' := by
  have hget : ∀ (j : Nat) (u : Lt), L'[j]? = some u → ∃ u' : Lt, L[j]? = some u' ∧ u'.2 = u.2 := by
    intro j u hu
    have h1 : (L'.map (·.2))[j]? = some u.2 := by simp [hu]
    rw [hm] at h1
    simp only [List.getElem?_map, Option.map_eq_some_iff] at h1
    exact h1
  have hm' : ∀ u ∈ L', ∃ u' : Lt, u' ∈ L ∧ u'.2 = u.2 := fun u hu => by
    obtain ⟨j, hj⟩ := List.getElem?_of_mem hu
    obtain ⟨u', h1, h2⟩ := hget j u hj
    exact ⟨u', List.mem_of_getElem? h1, h2⟩
  refine ⟨hn, ?_, h.lt, ?_, ?_, ?_⟩
  · intro u hu
    obtain ⟨u', h1, h2⟩ := hm' u hu
    rw [← h2]
    refine (h.sub u' h1).kept hg ?_
    cases hv : u'.2.1.ownBlock with
    | none => exact .inl rfl
    | some k => exact .inr (fun e => h.ne u' h1 k hv e.symm)
  · intro u hu
    obtain ⟨u', h1, h2⟩ := hm' u hu
    rw [← h2]
    exact h.subLt u' h1
  · intro u hu
    obtain ⟨u', h1, h2⟩ := hm' u hu
    rw [← h2]
    exact h.ne u' h1
  · intro a b x y hx hy hab k hk
    obtain ⟨x', hx', hex⟩ := hget a x hx
    obtain ⟨y', hy', hey⟩ := hget b y hy
    rw [← hey]
    exact h.nd a b x' y' hx' hy' hab k (by rw [hex]; exact hk)
/-- a new term is put into place i -/
theorem OwnT.put (h : OwnT w lo hi eT eF v L) {i hi2 : Nat} {c : Int} {fv : Value} {fs : List (Int × Int)} (hi' : i < L.length) (hg : w.grownBy w' v.ownBlock) (hn : w'.ownsRow lo eT 2 v L.length ((L.set i (c, fv, fs)).flatMap ltE))
    (hf : w'.ownsRow hi eF 2 fv fs.length (prC fs)) (hf2 : ∀ k, fv.ownBlock = some k → k < hi2) (hl : lo ≤ hi) (hh : hi ≤ hi2) : OwnT w' lo hi2 eT eF v (L.set i (c, fv, fs)) := by
  have hval : ∀ j u, (L.set i (c, fv, fs))[j]? = some u → (j = i ∧ u = (c, fv, fs)) ∨ (j ≠ i ∧ L[j]? = some u) := by
    intro j u hu
    by_cases hj : j = i
    · subst hj
      rw [List.getElem?_set_self hi'] at hu
      exact .inl ⟨rfl, by simpa using hu.symm⟩
    · rw [List.getElem?_set_ne (by omega)] at hu
      exact .inr ⟨hj, hu⟩
  have hfb : ∀ k, fv.ownBlock = some k → hi ≤ k := fun k hk => (own_block_lt hf hk).1
  refine ⟨by rw [List.length_set]; exact hn, ?_, fun k hk => Nat.lt_of_lt_of_le (h.lt k hk) hh, ?_, ?_, ?_⟩
  · intro u hu
    obtain ⟨j, hj⟩ := List.getElem?_of_mem hu
    rcases hval j u hj with ⟨_, rfl⟩ | ⟨_, hu'⟩
    · exact own_low hf hl
    · have hum := List.mem_of_getElem? hu'
      refine (h.sub u hum).kept hg ?_
      cases hv : u.2.1.ownBlock with
      | none => exact .inl rfl
      | some k => exact .inr (fun e => h.ne u hum k hv e.symm)
  · intro u hu k hk
    obtain ⟨j, hj⟩ := List.getElem?_of_mem hu
    rcases hval j u hj with ⟨_, rfl⟩ | ⟨_, hu'⟩
    · exact hf2 k hk
    · exact Nat.lt_of_lt_of_le (h.subLt u (List.mem_of_getElem? hu') k hk) hh
  · intro u hu k hk
    obtain ⟨j, hj⟩ := List.getElem?_of_mem hu
    rcases hval j u hj with ⟨_, rfl⟩ | ⟨_, hu'⟩
    · intro e
      have h1 := hfb k hk
      have h2 := h.lt k e
      omega
    · exact h.ne u (List.mem_of_getElem? hu') k hk
  · intro a b x y hx hy hab k hk
    rcases hval a x hx with ⟨rfl, rfl⟩ | ⟨ha, hx'⟩ <;> rcases hval b y hy with ⟨rfl, rfl⟩ | ⟨hb, hy'⟩
    · exact absurd rfl hab
    · intro e
      have h1 := hfb k hk
      have h2 := h.subLt y (List.mem_of_getElem? hy') k e
      omega
    · intro e
      have h1 := hfb k e
      have h2 := h.subLt x (List.mem_of_getElem? hx') k hk
      omega
    · exact h.nd a b x y hx' hy' hab k hk
/-- a row of empty terms -/
theorem OwnT.zeros {b n : Nat} (hb : Bl w b eT ((List.replicate n ((0, .slice none 0 0, []) : Lt)).flatMap ltE)) (h1 : lo ≤ b) (h2 : b < hi) (hn : n ≤ maxLen) : OwnT w lo hi eT eF (.slice (some ⟨b, 0, none⟩) n n) (List.replicate n (0, .slice none 0 0, [])) := by
  have hm : ∀ t ∈ List.replicate n ((0, .slice none 0 0, []) : Lt), t = (0, .slice none 0 0, []) := fun t ht => (List.mem_replicate.1 ht).2
  refine ⟨?_, ?_, ?_, ?_, ?_, ?_⟩
  · have := own_of_bl (base := lo) (sz := 2) (n := n) hb (by rw [lt_len]; simp) h1 hn
    rw [List.length_replicate]; exact this
  · intro t ht; rw [hm t ht]; exact World.ownsRow_nil _ _ _ _
  · intro k hk; simp [Value.ownBlock] at hk; omega
  · intro t ht k hk; rw [hm t ht] at hk; simp [Value.ownBlock] at hk
  · intro t ht k hk; rw [hm t ht] at hk; simp [Value.ownBlock] at hk
  · intro i j t u ht hu hij k hk
    rw [hm t (List.mem_of_getElem? ht)] at hk; simp [Value.ownBlock] at hk
end
end Go.Mw
