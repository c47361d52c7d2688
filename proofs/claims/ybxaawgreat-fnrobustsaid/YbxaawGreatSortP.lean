/-
  Sorting, plain: what a merge does.
-/
import Derived.Test.YbxaawGreatNormP
set_option linter.unusedVariables false
set_option linter.unusedSimpArgs false
namespace Go.Mw

/-- in order, equals allowed -/
def Wk (a : List MT) : Prop := a.Pairwise fun x y => le2 x.2 y.2
/-- every vector is one of 26 exponents -/
def Vl (a : List MT) : Prop := ∀ t ∈ a, Rv t.2
theorem Vl.len {a : List MT} (h : Vl a) : ∀ t ∈ a, t.2.length = 26 := fun t ht => (h t ht).len
structure Srt (a S : List MT) : Prop where
  wk : Wk S
  sum : ∀ v, csum S v = csum a v
  len : S.length = a.length
  mem : ∀ t ∈ S, t ∈ a
theorem Srt.vl {a S : List MT} (h : Srt a S) (hv : Vl a) : Vl S := fun t ht => hv t (h.mem t ht)
theorem Srt.short {a : List MT} (h : a.length ≤ 1) : Srt a a := by
  refine ⟨?_, fun v => rfl, rfl, fun t ht => ht⟩
  match a, h with
  | [], _ => exact List.Pairwise.nil
  | [x], _ => exact List.pairwise_singleton _ _

structure Mg (A B : List MT) (i j : Nat) (O : List MT) : Prop where
  wk : Wk O
  leA : ∀ x ∈ O, ∀ y ∈ A.drop i, le2 x.2 y.2
  leB : ∀ x ∈ O, ∀ y ∈ B.drop j, le2 x.2 y.2
  sum : ∀ v, csum O v + csum (A.drop i) v + csum (B.drop j) v = csum A v + csum B v
  len : O.length = i + j
  mem : ∀ t ∈ O, t ∈ A ∨ t ∈ B
theorem Mg.start (A B : List MT) : Mg A B 0 0 [] := ⟨List.Pairwise.nil, fun x hx => (by cases hx), fun x hx => (by cases hx), fun v => by simp [csum], rfl, fun t ht => (by cases ht)⟩
theorem wk_snoc {O : List MT} {t : MT} (h : Wk O) (ht : ∀ x ∈ O, le2 x.2 t.2) : Wk (O ++ [t]) := List.pairwise_append.2 ⟨h, List.pairwise_singleton _ _, fun x hx y hy => by simp at hy; subst hy; exact ht x hx⟩
theorem wk_drop {A : List MT} (h : Wk A) {i : Nat} {a : MT} (hi : A[i]? = some a) : ∀ y ∈ A.drop (i + 1), le2 a.2 y.2 := by
  have h1 : Wk (A.drop i) := List.Pairwise.sublist (List.drop_sublist i A) h
  rw [drop_cons hi] at h1
  exact (List.pairwise_cons.1 h1).1
theorem csum_drop {A : List MT} {i : Nat} {a : MT} (h : A[i]? = some a) (v : List Int) : csum (A.drop i) v = (if a.2 = v then a.1 else 0) + csum (A.drop (i + 1)) v := by rw [drop_cons h]; rfl
theorem csum_snoc (O : List MT) (a : MT) (v : List Int) : csum (O ++ [a]) v = csum O v + (if a.2 = v then a.1 else 0) := by rw [csum_append]; simp [csum]
section
variable {A B O : List MT} {i j : Nat} {a b : MT}
theorem Mg.takeB (h : Mg A B i j O) (hA : Wk A) (hB : Wk B) (vA : ∀ t ∈ A, t.2.length = 26) (vB : ∀ t ∈ B, t.2.length = 26) (ha : A[i]? = some a) (hb : B[j]? = some b) (hlt : before b.2 a.2 = true) : Mg A B i (j + 1) (O ++ [b]) := by
  have hmb : b ∈ B.drop j := by rw [drop_cons hb]; simp
  have la := vA a (List.mem_of_getElem? ha)
  have lb := vB b (List.mem_of_getElem? hb)
  refine ⟨wk_snoc h.wk fun x hx => h.leB x hx b hmb, ?_, ?_, ?_, ?_, ?_⟩
  · intro x hx y hy
    rcases List.mem_append.1 hx with hx | hx
    · exact h.leA x hx y hy
    · simp at hx; subst hx
      have ly := vA y (List.mem_of_mem_drop hy)
      rw [drop_cons ha] at hy
      rcases List.mem_cons.1 hy with rfl | hy
      · exact before_anti hlt
      · have h1 := wk_drop hA ha y hy
        exact le2_trans (lb.trans la.symm) (la.trans ly.symm) (before_anti hlt) h1
  · intro x hx y hy
    rcases List.mem_append.1 hx with hx | hx
    · exact h.leB x hx y (by rw [drop_cons hb]; simp [hy])
    · simp at hx; subst hx
      exact wk_drop hB hb y hy
  · intro v
    have := h.sum v
    rw [csum_drop hb v] at this
    rw [csum_snoc]; omega
  · rw [List.length_append, h.len]; simp; omega
  · intro t ht
    rcases List.mem_append.1 ht with ht | ht
    · exact h.mem t ht
    · simp at ht; subst ht; exact .inr (List.mem_of_getElem? hb)
theorem Mg.takeA (h : Mg A B i j O) (hA : Wk A) (hB : Wk B) (vA : ∀ t ∈ A, t.2.length = 26) (vB : ∀ t ∈ B, t.2.length = 26) (ha : A[i]? = some a) (hle : ∀ b, B[j]? = some b → before b.2 a.2 = false) : Mg A B (i + 1) j (O ++ [a]) := by
  have hma : a ∈ A.drop i := by rw [drop_cons ha]; simp
  have la := vA a (List.mem_of_getElem? ha)
  refine ⟨wk_snoc h.wk fun x hx => h.leA x hx a hma, ?_, ?_, ?_, ?_, ?_⟩
  · intro x hx y hy
    rcases List.mem_append.1 hx with hx | hx
    · exact h.leA x hx y (by rw [drop_cons ha]; simp [hy])
    · simp at hx; subst hx
      exact wk_drop hA ha y hy
  · intro x hx y hy
    rcases List.mem_append.1 hx with hx | hx
    · exact h.leB x hx y hy
    · simp at hx; subst hx
      have ly := vB y (List.mem_of_mem_drop hy)
      have hj : j < B.length := by
        rcases Nat.lt_or_ge j B.length with hj | hj
        · exact hj
        · rw [drop_end hj] at hy; cases hy
      obtain ⟨b, hb⟩ := nth_of_lt B j hj
      have lb := vB b (List.mem_of_getElem? hb)
      rw [drop_cons hb] at hy
      rcases List.mem_cons.1 hy with rfl | hy
      · exact hle y hb
      · exact le2_trans (la.trans lb.symm) (lb.trans ly.symm) (hle b hb) (wk_drop hB hb y hy)
  · intro v
    have := h.sum v
    rw [csum_drop ha v] at this
    rw [csum_snoc]; omega
  · rw [List.length_append, h.len]; simp; omega
  · intro t ht
    rcases List.mem_append.1 ht with ht | ht
    · exact h.mem t ht
    · simp at ht; subst ht; exact .inl (List.mem_of_getElem? ha)
/-- one side is used up: the rest follows -/
theorem Mg.rest (h : Mg A B i j O) (hA : Wk A) (hB : Wk B) (hi : i ≤ A.length) (hj : j ≤ B.length) (hend : A.length ≤ i ∨ B.length ≤ j) : Srt (A ++ B) (O ++ A.drop i ++ B.drop j) := by
  have hwA : Wk (A.drop i) := List.Pairwise.sublist (List.drop_sublist i A) hA
  have hwB : Wk (B.drop j) := List.Pairwise.sublist (List.drop_sublist j B) hB
  refine ⟨?_, fun v => ?_, ?_, ?_⟩
  · refine List.pairwise_append.2 ⟨List.pairwise_append.2 ⟨h.wk, hwA, h.leA⟩, hwB, fun x hx y hy => ?_⟩
    rcases List.mem_append.1 hx with hx | hx
    · exact h.leB x hx y hy
    · rcases hend with he | he
      · rw [drop_end he] at hx; cases hx
      · rw [drop_end he] at hy; cases hy
  · rw [csum_append, csum_append, csum_append]; exact h.sum v
  · simp only [List.length_append, List.length_drop, h.len]; omega
  · intro t ht
    simp only [List.mem_append] at ht ⊢
    rcases ht with (ht | ht) | ht
    · exact h.mem t ht
    · exact .inl (List.mem_of_mem_drop ht)
    · exact .inr (List.mem_of_mem_drop ht)
end
theorem Srt.congr {a b S : List MT} (h : Srt a S) (hs : ∀ v, csum a v = csum b v) (hl : a.length = b.length) (hm : ∀ t ∈ a, t ∈ b) : Srt b S := ⟨h.wk, fun v => (h.sum v).trans (hs v), h.len.trans hl, fun t ht => hm t (h.mem t ht)⟩
/-- two halves sorted -/
theorem Srt.two {A A1 A2 S1 S2 S : List MT} (he : A = A1 ++ A2) (h1 : Srt A1 S1) (h2 : Srt A2 S2) (h : Srt (S1 ++ S2) S) : Srt A S := by
  subst he
  refine h.congr (fun v => ?_) ?_ fun t ht => ?_
  · rw [csum_append, csum_append, h1.sum, h2.sum]
  · rw [List.length_append, List.length_append, h1.len, h2.len]
  · rcases List.mem_append.1 ht with ht | ht
    · exact List.mem_append.2 (.inl (h1.mem t ht))
    · exact List.mem_append.2 (.inr (h2.mem t ht))

/-! ### grouping a sorted list -/
/-- the state of a loop that sums neighbours: acc's vectors are strictly in order, the sums are right, what is left does not come before the last -/
structure Gr (S : List MT) (k : Nat) (acc : List MT) : Prop where
  sb : SB acc
  sum : ∀ v, Cg (csum acc v + csum (S.drop k) v) (csum S v)
  le : ∀ x ∈ acc, ∀ y ∈ S.drop k, le2 x.2 y.2
  mem : ∀ t ∈ acc, ∃ u ∈ S, u.2 = t.2
theorem Gr.start (S : List MT) : Gr S 0 [] := ⟨List.Pairwise.nil, fun v => by simp [csum, Cg], fun x hx => (by cases hx), fun t ht => (by cases ht)⟩
theorem Gr.vl {S acc : List MT} {k : Nat} (h : Gr S k acc) (hv : Vl S) : Vl acc := fun t ht => by
  obtain ⟨u, hu, he⟩ := h.mem t ht
  rw [← he]; exact hv u hu
theorem Gr.same {S P : List MT} {k : Nat} {c : Int} {t : MT} (h : Gr S k (P ++ [(c, t.2)])) (hw : Wk S) (ht : S[k]? = some t) : Gr S (k + 1) (P ++ [(w64 (c + t.1), t.2)]) := by
  have hd := drop_cons ht
  have hsb := h.sb
  refine ⟨?_, fun v => ?_, fun x hx y hy => ?_, fun x hx => ?_⟩
  · obtain ⟨h1, h2, h3⟩ := List.pairwise_append.1 hsb
    exact List.pairwise_append.2 ⟨h1, List.pairwise_singleton _ _, fun x hx y hy => by
      simp at hy; subst hy
      exact h3 x hx (c, t.2) (by simp)⟩
  · have := h.sum v
    rw [csum_snoc, hd, csum] at this
    rw [csum_snoc]
    refine Cg.trans ?_ this
    by_cases e : t.2 = v
    · simp only [if_pos e]
      have h1 := (Cg.w64 (c + t.1)).add (Cg.refl (csum P v + csum (S.drop (k + 1)) v))
      unfold Cg at h1 ⊢
      omega
    · simp only [if_neg e]; unfold Cg; omega
  · have hy' : y ∈ S.drop k := by rw [hd]; simp [hy]
    rcases List.mem_append.1 hx with hx | hx
    · exact h.le x (List.mem_append.2 (.inl hx)) y hy'
    · simp at hx; subst hx
      exact h.le (c, t.2) (by simp) y hy'
  · rcases List.mem_append.1 hx with hx | hx
    · exact h.mem x (List.mem_append.2 (.inl hx))
    · simp at hx; subst hx; exact ⟨t, List.mem_of_getElem? ht, rfl⟩
theorem Gr.new {S acc : List MT} {k : Nat} {t : MT} (h : Gr S k acc) (hw : Wk S) (hv : ∀ x ∈ S, x.2.length = 26) (ht : S[k]? = some t) (hne : ∀ x, acc.getLast? = some x → x.2 ≠ t.2) : Gr S (k + 1) (acc ++ [t]) := by
  have hd := drop_cons ht
  have hvt := hv t (List.mem_of_getElem? ht)
  have hva : ∀ x ∈ acc, x.2.length = 26 := fun x hx => by
    obtain ⟨u, hu, he⟩ := h.mem x hx
    rw [← he]; exact hv u hu
  refine ⟨?_, fun v => ?_, fun x hx y hy => ?_, fun x hx => ?_⟩
  · refine List.pairwise_append.2 ⟨h.sb, List.pairwise_singleton _ _, fun x hx y hy => ?_⟩
    simp at hy; subst hy
    have hle := h.le x hx y (by rw [hd]; simp)
    -- x is the last or comes before it
    have hlast : x.2 ≠ y.2 := by
      intro e
      obtain ⟨z, hz⟩ : ∃ z, acc.getLast? = some z := by
        cases hz : acc.getLast? with
        | none => rw [List.getLast?_eq_none_iff] at hz; rw [hz] at hx; cases hx
        | some z => exact ⟨z, rfl⟩
      have hzm : z ∈ acc := List.mem_of_getLast? hz
      by_cases hxz : x.2 = z.2
      · exact hne z hz (hxz ▸ e)
      · -- x before z strictly, z ≤ y = x
        have hb : before x.2 z.2 = true := by
          obtain ⟨ys, hys⟩ := List.getLast?_eq_some_iff.1 hz
          have hsb := h.sb
          rw [hys] at hsb hx
          obtain ⟨_, _, h3⟩ := List.pairwise_append.1 hsb
          rcases List.mem_append.1 hx with hx | hx
          · exact h3 x hx z (by simp)
          · simp at hx; exact absurd (by rw [hx]) hxz
        have := h.le z hzm y (by rw [hd]; simp)
        unfold le2 at this
        rw [← e, hb] at this; cases this
    rcases before_total ((hva x hx).trans hvt.symm) hlast with hb | hb
    · exact hb
    · unfold le2 at hle; rw [hb] at hle; cases hle
  · have := h.sum v
    rw [hd, csum] at this
    rw [csum_snoc]
    unfold Cg at this ⊢; omega
  · have hy' : y ∈ S.drop k := by rw [hd]; simp [hy]
    rcases List.mem_append.1 hx with hx | hx
    · exact h.le x hx y hy'
    · simp at hx; subst hx
      exact wk_drop hw ht y hy
  · rcases List.mem_append.1 hx with hx | hx
    · exact h.mem x hx
    · simp at hx; subst hx; exact ⟨x, List.mem_of_getElem? ht, rfl⟩
/-- zero sums dropped: the normal form -/
def nzf (a : List MT) : List MT := a.filter fun t => decide (t.1 ≠ 0)
theorem csum_nzf : ∀ (a : List MT) (v : List Int), csum (nzf a) v = csum a v
  | [], v => rfl
  | t :: a, v => by
    have ih := csum_nzf a v
    unfold nzf at ih ⊢
    rw [List.filter_cons]
    split
    · simp only [csum, ih]
    · rename_i h
      simp only [decide_eq_true_eq, Decidable.not_not] at h
      rw [ih, csum, h]; simp
theorem nzf_norm {S acc : List MT} (h : Gr S S.length acc) (hv : Vl S) (hc : ∀ t ∈ acc, w64 t.1 = t.1) : Norm S (nzf acc) := by
  refine ⟨List.Pairwise.sublist List.filter_sublist h.sb, fun t ht => ?_, fun t ht => ?_, fun v => ?_⟩
  · unfold nzf at ht
    rw [List.mem_filter] at ht
    exact ⟨by simpa using ht.2, hc t ht.1⟩
  · unfold nzf at ht
    rw [List.mem_filter] at ht
    exact (h.vl hv t ht.1).len
  · rw [csum_nzf]
    have := h.sum v
    rw [drop_end (Nat.le_refl _)] at this
    simp only [csum, Int.add_zero] at this
    exact this.symm
theorem Norm.of_srt {a S R : List MT} (h : Norm S R) (hs : Srt a S) : Norm a R := ⟨h.sb, h.nz, h.vl, fun v => by rw [← hs.sum v]; exact h.sum v⟩
end Go.Mw
