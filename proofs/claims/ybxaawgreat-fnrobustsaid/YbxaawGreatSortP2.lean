/-
  Sorting from the bottom up, plain; two rows in memory.
-/
import Derived.Test.YbxaawGreatSortP
import Derived.Test.YbxaawGreatSortW2
set_option linter.unusedVariables false
set_option linter.unusedSimpArgs false
namespace Go.Mw
/-- sorted within each run of w -/
def Rn (w : Nat) (A : List MT) : Prop := ∀ (i j : Nat) (x y : MT), i < j → A[i]? = some x → A[j]? = some y → i / w = j / w → le2 x.2 y.2
theorem Rn.one (A : List MT) : Rn 1 A := fun i j x y h _ _ e => by simp at e; omega
theorem wk_of {A : List MT} (h : ∀ (i j : Nat) (x y : MT), i < j → A[i]? = some x → A[j]? = some y → le2 x.2 y.2) : Wk A := by
  unfold Wk
  rw [List.pairwise_iff_getElem]
  intro i j hi hj hij
  exact h i j A[i] A[j] hij (by simp [hi]) (by simp [hj])
theorem Rn.all {w : Nat} {A : List MT} (h : Rn w A) (hl : A.length ≤ w) : Wk A := wk_of fun i j x y hij hx hy => h i j x y hij hx hy (by
  have h1 := (List.getElem?_eq_some_iff.1 hx).1
  have h2 := (List.getElem?_eq_some_iff.1 hy).1
  rw [Nat.div_eq_of_lt (by omega), Nat.div_eq_of_lt (by omega)])
theorem Rn.chunk {w lo k : Nat} {A : List MT} (h : Rn w A) (hw : 0 < w) (hlo : lo % w = 0) (hk : k ≤ w) : Wk ((A.drop lo).take k) := wk_of fun i j x y hij hx hy => by
  have h1 := (List.getElem?_eq_some_iff.1 hx).1
  have h2 := (List.getElem?_eq_some_iff.1 hy).1
  rw [List.length_take] at h1 h2
  rw [List.getElem?_take, if_pos (by omega), List.getElem?_drop] at hx hy
  refine h (lo + i) (lo + j) x y (by omega) hx hy ?_
  obtain ⟨q, rfl⟩ : ∃ q, lo = q * w := ⟨lo / w, by have := Nat.div_add_mod lo w; rw [hlo, Nat.mul_comm] at this; omega⟩
  rw [Nat.mul_comm q w, Nat.mul_add_div hw, Nat.mul_add_div hw, Nat.div_eq_of_lt (by omega), Nat.div_eq_of_lt (by omega)]
structure Ps (A : List MT) (w lo : Nat) (D : List MT) : Prop where
  len : D.length = min lo A.length
  rn : Rn (2 * w) D
  sum : ∀ v, csum D v = csum (A.take lo) v
  mem : ∀ t ∈ D, t ∈ A
theorem Ps.start (A : List MT) (w : Nat) : Ps A w 0 [] := ⟨by simp, fun i j x y _ h => by simp at h, fun v => by simp [csum], fun t ht => (by cases ht)⟩
/-- the two halves of a stretch -/
def hf1 (A : List MT) (lo mid : Nat) : List MT := (A.drop lo).take (mid - lo)
theorem hf_len {A : List MT} {lo mid : Nat} (h : mid ≤ A.length) (hl : lo ≤ mid) : (hf1 A lo mid).length = mid - lo := by unfold hf1; rw [List.length_take, List.length_drop]; omega
theorem hf_get {A : List MT} {lo mid i : Nat} {x : MT} (hi : i < mid) (hl : lo ≤ i) (hx : A[i]? = some x) : (hf1 A lo mid)[i - lo]? = some x := by
  unfold hf1
  rw [List.getElem?_take, if_pos (by omega), List.getElem?_drop, show lo + (i - lo) = i by omega]; exact hx
theorem hf_mem {A : List MT} {lo mid : Nat} {x : MT} (h : x ∈ hf1 A lo mid) : x ∈ A := List.mem_of_mem_drop (List.mem_of_mem_take h)
theorem hf_join {A : List MT} {lo mid hi : Nat} (h1 : lo ≤ mid) (h2 : mid ≤ hi) : hf1 A lo hi = hf1 A lo mid ++ hf1 A mid hi := by
  unfold hf1
  apply List.ext_getElem?
  intro i
  by_cases hi1 : i < mid - lo
  · by_cases hl : i < ((A.drop lo).take (mid - lo)).length
    · rw [List.getElem?_append_left hl, List.getElem?_take, List.getElem?_take, if_pos hi1, if_pos (by omega)]
    · rw [List.length_take, List.length_drop] at hl
      rw [List.getElem?_eq_none (by rw [List.length_take, List.length_drop]; omega), List.getElem?_eq_none (by simp only [List.length_append, List.length_take, List.length_drop]; omega)]
  · by_cases hA : lo + i < A.length
    · have hl : ((A.drop lo).take (mid - lo)).length = mid - lo := by rw [List.length_take, List.length_drop]; omega
      rw [List.getElem?_append_right (by omega), hl, List.getElem?_take, List.getElem?_take, List.getElem?_drop, List.getElem?_drop, show mid + (i - (mid - lo)) = lo + i by omega]
      by_cases hh : i < hi - lo
      · rw [if_pos hh, if_pos (by omega)]
      · rw [if_neg hh, if_neg (by omega)]
    · rw [List.getElem?_eq_none (by rw [List.length_take, List.length_drop]; omega), List.getElem?_eq_none (by simp only [List.length_append, List.length_take, List.length_drop]; omega)]
theorem take_hf {A : List MT} {lo hi : Nat} (h : lo ≤ hi) : A.take hi = A.take lo ++ hf1 A lo hi := by
  unfold hf1
  have := List.take_add (l := A) (i := lo) (j := hi - lo)
  rw [show lo + (hi - lo) = hi by omega] at this
  exact this
theorem Ps.step {A D O : List MT} {w lo : Nat} (h : Ps A w lo D) (hw : 0 < w) (hlo : lo % (2 * w) = 0) (hlt : lo < A.length) (hO : Srt (hf1 A lo (min (lo + 2 * w) A.length)) O) : Ps A w (lo + 2 * w) (D ++ O) := by
  have hOl := hO.len
  rw [hf_len (by omega) (by omega)] at hOl
  have hDl := h.len
  refine ⟨by rw [List.length_append]; omega, ?_, fun v => ?_, fun t ht => ?_⟩
  · intro i j x y hij hx hy he
    have hj := (List.getElem?_eq_some_iff.1 hy).1
    rw [List.length_append] at hj
    by_cases h1 : j < D.length
    · rw [List.getElem?_append_left h1] at hy
      rw [List.getElem?_append_left (by omega)] at hx
      exact h.rn i j x y hij hx hy he
    · by_cases h2 : i < D.length
      · exfalso
        obtain ⟨q, rfl⟩ : ∃ q, lo = q * (2 * w) := ⟨lo / (2 * w), by have := Nat.div_add_mod lo (2 * w); rw [hlo, Nat.mul_comm] at this; omega⟩
        have e1 : i / (2 * w) < q := by rw [Nat.div_lt_iff_lt_mul (by omega)]; omega
        have e2 : q ≤ j / (2 * w) := by rw [Nat.le_div_iff_mul_le (by omega)]; omega
        omega
      · rw [List.getElem?_append_right (by omega)] at hx hy
        have hwk := hO.wk
        unfold Wk at hwk
        rw [List.pairwise_iff_getElem] at hwk
        obtain ⟨l1, e1⟩ := List.getElem?_eq_some_iff.1 hx
        obtain ⟨l2, e2⟩ := List.getElem?_eq_some_iff.1 hy
        have := hwk _ _ l1 l2 (by omega)
        rwa [e1, e2] at this
  · rw [csum_append, h.sum, hO.sum]
    have e : A.take (lo + 2 * w) = A.take (min (lo + 2 * w) A.length) := by
      rcases Nat.le_total (lo + 2 * w) A.length with h1 | h1
      · rw [Nat.min_eq_left h1]
      · rw [Nat.min_eq_right h1, List.take_of_length_le h1, List.take_of_length_le (Nat.le_refl _)]
    rw [e, take_hf (lo := lo) (hi := min (lo + 2 * w) A.length) (by omega), csum_append]
  · rcases List.mem_append.1 ht with ht | ht
    · exact h.mem t ht
    · exact hf_mem (hO.mem t ht)
theorem Mg.takeB' {A B O : List MT} {i j : Nat} {b : MT} (h : Mg A B i j O) (hB : Wk B) (hi : A.length ≤ i) (hb : B[j]? = some b) : Mg A B i (j + 1) (O ++ [b]) := by
  have hmb : b ∈ B.drop j := by rw [drop_cons hb]; simp
  have hA : A.drop i = [] := drop_end hi
  refine ⟨wk_snoc h.wk fun x hx => h.leB x hx b hmb, ?_, ?_, ?_, ?_, ?_⟩
  · intro x hx y hy; rw [hA] at hy; cases hy
  · intro x hx y hy
    rcases List.mem_append.1 hx with hx | hx
    · exact h.leB x hx y (by rw [drop_cons hb]; simp [hy])
    · simp at hx; subst hx
      exact wk_drop hB hb y hy
  · intro v
    have := h.sum v
    rw [csum_drop hb v] at this
    rw [csum_snoc]; omega
  · rw [List.length_append, h.len]; simp; omega
  · intro t ht
    rcases List.mem_append.1 ht with ht | ht
    · exact h.mem t ht
    · simp at ht; subst ht; exact .inr (List.mem_of_getElem? hb)

/-! ### monomials in memory -/
def mnE (t : MT) : List Value := mC t.1 (pad26 t.2) (isum t.2)
theorem mnE_len (t : MT) : (mnE t).length = 28 := by rw [mnE, mC_len, pad26_len]
theorem mnE_eq {c : Int} {v : List Int} (h : v.length = 26) : mnE (c, v) = mC c v (isum v) := by simp only [mnE, pad26_eq h]
theorem mnE_one (t : MT) : ∀ u ∈ mnE t, u.oneCell' = true := mC_one _ _ _
theorem mn_at {w : World} {b o k : Nat} {A : List MT} {t : MT} (h : Cells w b o (A.flatMap mnE)) (ht : A[k]? = some t) : Cells w b (o + k * 28) (mnE t) := h.sub (k * 28) _ (fm_get mnE_len A k t ht)

/-- two rows, of which one is read, one is written -/
structure Two (e : TypeId) (B : Nat) (w wr : World) (va x y : Value) (A C : List MT) : Prop where
  ox : wr.ownsRow B e 28 x A.length (A.flatMap mnE)
  oy : wr.ownsRow B e 28 y C.length (C.flatMap mnE)
  ne : ∀ k, x.ownBlock = some k → y.ownBlock ≠ some k
  gr : w.grownBy wr va.ownBlock
  xb : ∀ k, x.ownBlock = some k → va.ownBlock = some k ∨ w.heap.size ≤ k
  yb : ∀ k, y.ownBlock = some k → va.ownBlock = some k ∨ w.heap.size ≤ k
section
variable {e : TypeId} {B : Nat} {w wr w' : World} {va x y : Value} {A C : List MT}
theorem Two.swap (h : Two e B w wr va x y A C) : Two e B w wr va y x C A := ⟨h.oy, h.ox, fun k hk hk' => h.ne k hk' hk, h.gr, h.yb, h.xb⟩
theorem Two.next (h : Two e B w wr va x y A C) (he : Ext wr.heap.size wr w') : Two e B w w' va x y A C :=
  ⟨own_ext h.ox he, own_ext h.oy he, h.ne, grown_trans h.gr (grown_ext _ he), h.xb, h.yb⟩
theorem Two.put {g n cap k : Nat} {t : MT} (h : Two e B w wr va x (.slice (some ⟨g, 0, none⟩) n cap) A C) (hk : k < C.length) :
    ∃ cs, Bl wr g e cs ∧ k * 28 + 28 ≤ cs.length ∧ Two e B w (setB wr g e (putAt cs (k * 28) (mnE t))) va x (.slice (some ⟨g, 0, none⟩) n cap) A (C.set k t) := by
  obtain ⟨sp, -, -, hbl, hln, hre⟩ := own_at mnE_len h.oy
  refine ⟨_, hbl, hln k hk, own_same h.ox fun q hq => ?_, ?_, h.ne, ?_, h.xb, h.yb⟩
  · simp only [setB]
    rw [Array.getElem?_setIfInBounds_ne (fun e1 => h.ne q hq (by rw [← e1]; rfl))]
  · rw [List.length_set]
    refine hre _ _ (by simp) ?_
    rw [← fm_put mnE_len sp C k t hk]
    exact hbl.set _ _
  · refine ⟨h.gr.os, h.gr.tape, h.gr.output, by rw [size_setB]; exact h.gr.size, fun q hq hne => ?_⟩
    simp only [setB]
    rw [Array.getElem?_setIfInBounds_ne (fun e1 => by
      subst e1
      rcases h.yb g rfl with h1 | h1
      · exact hne h1.symm
      · omega)]
    exact h.gr.block q hq hne
end
end Go.Mw
