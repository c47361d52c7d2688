/-
  Sums of terms, plain: the normal form and why it is the only one.
-/
import Derived.Test.YbxaawGreatEvalP
import Derived.Test.YbxaawGreatMtW
set_option linter.unusedVariables false
set_option linter.unusedSimpArgs false
namespace Go.Mw

/-! ### the order is total and strict -/
theorem lexGt_trans : ∀ a b c : List Int, lexGt a b = true → lexGt b c = true → lexGt a c = true
  | [], _, _, h, _ => by simp [lexGt] at h
  | _ :: _, [], _, h, _ => by simp [lexGt] at h
  | _ :: _, _ :: _, [], _, h => by simp [lexGt] at h
  | x :: a, y :: b, z :: c, h, k => by
    rw [lexGt] at h k ⊢
    by_cases e1 : x = y
    · rw [if_pos e1] at h
      by_cases e2 : y = z
      · rw [if_pos e2] at k
        rw [if_pos (e1.trans e2)]
        exact lexGt_trans a b c h k
      · rw [if_neg e2] at k
        rw [if_neg (fun e => e2 (e1 ▸ e)), e1]; exact k
    · rw [if_neg e1] at h
      simp only [decide_eq_true_eq] at h
      by_cases e2 : y = z
      · rw [if_neg (fun e => e1 (e.trans e2.symm))]
        simp only [decide_eq_true_eq]; omega
      · rw [if_neg e2] at k
        simp only [decide_eq_true_eq] at k
        rw [if_neg (by omega)]
        simp only [decide_eq_true_eq]; omega
theorem lexGt_total : ∀ a b : List Int, a.length = b.length → a ≠ b → lexGt a b = true ∨ lexGt b a = true
  | [], [], _, h => absurd rfl h
  | [], _ :: _, h, _ => by simp at h
  | _ :: _, [], h, _ => by simp at h
  | x :: a, y :: b, hl, hne => by
    rw [lexGt, lexGt]
    by_cases e : x = y
    · rw [if_pos e, if_pos e.symm]
      exact lexGt_total a b (by simpa using hl) (fun h => hne (by rw [e, h]))
    · rw [if_neg e, if_neg (fun h => e h.symm)]
      simp only [decide_eq_true_eq]; omega
theorem lexGt_irrefl : ∀ a : List Int, lexGt a a = false
  | [] => rfl
  | x :: a => by rw [lexGt, if_pos rfl]; exact lexGt_irrefl a
theorem before_irr (a : List Int) : before a a = false := by unfold before; rw [if_pos rfl]; exact lexGt_irrefl a
theorem before_trans {a b c : List Int} (h : before a b = true) (k : before b c = true) : before a c = true := by
  unfold before at *
  by_cases e1 : isum a = isum b
  · rw [if_pos e1] at h
    by_cases e2 : isum b = isum c
    · rw [if_pos e2] at k
      rw [if_pos (e1.trans e2)]
      exact lexGt_trans a b c h k
    · rw [if_neg e2] at k
      rw [if_neg (by omega), e1]; exact k
  · rw [if_neg e1] at h
    simp only [decide_eq_true_eq] at h
    by_cases e2 : isum b = isum c
    · rw [if_neg (by omega)]
      simp only [decide_eq_true_eq]; omega
    · rw [if_neg e2] at k
      simp only [decide_eq_true_eq] at k
      rw [if_neg (by omega)]
      simp only [decide_eq_true_eq]; omega
theorem before_total {a b : List Int} (hl : a.length = b.length) (hne : a ≠ b) : before a b = true ∨ before b a = true := by
  unfold before
  by_cases e : isum a = isum b
  · rw [if_pos e, if_pos e.symm]; exact lexGt_total a b hl hne
  · rw [if_neg e, if_neg (fun h => e h.symm)]
    simp only [decide_eq_true_eq]; omega
theorem before_anti {a b : List Int} (h : before a b = true) : before b a = false := by
  cases e : before b a with
  | false => rfl
  | true => have := before_trans h e; rw [before_irr] at this; cases this
/-- b does not come before a -/
def le2 (a b : List Int) : Prop := before b a = false
theorem le2_trans {a b c : List Int} (hab : a.length = b.length) (hbc : b.length = c.length) (h : le2 a b) (k : le2 b c) : le2 a c := by
  unfold le2 at *
  cases e : before c a with
  | false => rfl
  | true =>
    by_cases e1 : a = b
    · subst e1; rw [e] at k; cases k
    · rcases before_total hab e1 with h1 | h1
      · rw [before_trans e h1] at k; cases k
      · rw [h1] at h; cases h

/-! ### the sum of a vector's coefficients -/
def csum : List MT → List Int → Int
  | [], _ => 0
  | t :: r, v => (if t.2 = v then t.1 else 0) + csum r v
theorem csum_append : ∀ (a b : List MT) (v : List Int), csum (a ++ b) v = csum a v + csum b v
  | [], b, v => by simp [csum]
  | t :: a, b, v => by simp only [List.cons_append, csum, csum_append a b v]; omega
theorem csum_none : ∀ (a : List MT) (v : List Int), (∀ t ∈ a, t.2 ≠ v) → csum a v = 0
  | [], v, _ => rfl
  | t :: a, v, h => by
    rw [csum, if_neg (h t (by simp)), csum_none a v fun u hu => h u (by simp [hu])]; rfl
/-- strictly in order -/
def SB (a : List MT) : Prop := a.Pairwise fun x y => before x.2 y.2 = true
structure Norm (a : List MT) (R : List MT) : Prop where
  sb : SB R
  nz : ∀ t ∈ R, t.1 ≠ 0 ∧ w64 t.1 = t.1
  vl : ∀ t ∈ R, t.2.length = 26
  sum : ∀ v, Cg (csum a v) (csum R v)
theorem cg_zero {c : Int} (h : Cg c 0) (hw : w64 c = c) : c = 0 := by
  have := h.eq
  rw [hw] at this
  rw [this]; decide
theorem sb_head {t : MT} {R : List MT} (h : SB (t :: R)) : ∀ u ∈ R, u.2 ≠ t.2 := fun u hu e => by
  have := (List.pairwise_cons.1 h).1 u hu
  rw [e, before_irr] at this; cases this
theorem csum_head {t : MT} {R : List MT} (h : SB (t :: R)) : csum (t :: R) t.2 = t.1 := by
  rw [csum, if_pos rfl, csum_none R t.2 (sb_head h)]; omega
theorem norm_uniq : ∀ (R S : List MT), SB R → SB S → (∀ t ∈ R, t.1 ≠ 0 ∧ w64 t.1 = t.1) → (∀ t ∈ S, t.1 ≠ 0 ∧ w64 t.1 = t.1) → (∀ t ∈ R, t.2.length = 26) → (∀ t ∈ S, t.2.length = 26) →
    (∀ v, Cg (csum R v) (csum S v)) → R = S
  | [], [], _, _, _, _, _, _, _ => rfl
  | [], t :: S, _, hS, _, nS, _, _, h => by
    have h1 := h t.2
    rw [csum_head hS] at h1
    have := cg_zero h1.symm (nS t (by simp)).2
    exact absurd this (nS t (by simp)).1
  | t :: R, [], hR, _, nR, _, _, _, h => by
    have h1 := h t.2
    rw [csum_head hR] at h1
    have := cg_zero h1 (nR t (by simp)).2
    exact absurd this (nR t (by simp)).1
  | t :: R, u :: S, hR, hS, nR, nS, vR, vS, h => by
    have key : ∀ (t u : MT) (R S : List MT), SB (t :: R) → SB (u :: S) → (t.1 ≠ 0 ∧ w64 t.1 = t.1) → (∀ v, Cg (csum (t :: R) v) (csum (u :: S) v)) → before t.2 u.2 = true → False := by
      intro t u R S hR hS nt h hb
      have h1 := h t.2
      rw [csum_head hR, csum_none (u :: S) t.2] at h1
      · exact nt.1 (cg_zero h1 nt.2)
      · intro x hx e
        rcases List.mem_cons.1 hx with rfl | hx
        · rw [e, before_irr] at hb; cases hb
        · have := before_trans hb ((List.pairwise_cons.1 hS).1 x hx)
          rw [e, before_irr] at this; cases this
    by_cases e : t.2 = u.2
    · have h1 := h t.2
      rw [csum_head hR, e, csum_head hS] at h1
      have h2 : t.1 = u.1 := by
        have := h1.eq
        rwa [(nR t (by simp)).2, (nS u (by simp)).2] at this
      have h3 : t = u := Prod.ext h2 e
      subst h3
      congr 1
      refine norm_uniq R S (List.pairwise_cons.1 hR).2 (List.pairwise_cons.1 hS).2 (fun x hx => nR x (by simp [hx])) (fun x hx => nS x (by simp [hx])) (fun x hx => vR x (by simp [hx])) (fun x hx => vS x (by simp [hx])) fun v => ?_
      have h4 := h v
      simp only [csum] at h4
      unfold Cg at h4 ⊢
      omega
    · rcases before_total ((vR t (by simp)).trans (vS u (by simp)).symm) e with hb | hb
      · exact (key t u R S hR hS (nR t (by simp)) h hb).elim
      · exact (key u t S R hS hR (nS u (by simp)) (fun v => (h v).symm) hb).elim
theorem Norm.uniq {a b R S : List MT} (h : Norm a R) (k : Norm b S) (e : ∀ v, Cg (csum a v) (csum b v)) : R = S :=
  norm_uniq R S h.sb k.sb h.nz k.nz h.vl k.vl fun v => ((h.sum v).symm.trans (e v)).trans (k.sum v)

/-! ### one normal form -/
def ins (t : MT) : List MT → List MT
  | [] => if w64 t.1 = 0 then [] else [(w64 t.1, t.2)]
  | u :: r => if t.2 = u.2 then (if w64 (t.1 + u.1) = 0 then r else (w64 (t.1 + u.1), u.2) :: r)
      else if before t.2 u.2 = true then (if w64 t.1 = 0 then u :: r else (w64 t.1, t.2) :: u :: r) else u :: ins t r
def nf : List MT → List MT
  | [] => []
  | t :: r => ins t (nf r)
theorem ins_mem {t : MT} : ∀ {R : List MT} {x : MT}, x ∈ ins t R → x.2 = t.2 ∨ ∃ y ∈ R, y.2 = x.2
  | [], x, h => by
    rw [ins] at h
    split at h
    · cases h
    · simp at h; exact .inl (by rw [h])
  | u :: r, x, h => by
    rw [ins] at h
    split at h
    · split at h
      · exact .inr ⟨x, by simp [h], rfl⟩
      · rcases List.mem_cons.1 h with rfl | h
        · exact .inr ⟨u, by simp, rfl⟩
        · exact .inr ⟨x, by simp [h], rfl⟩
    · split at h
      · split at h
        · exact .inr ⟨x, h, rfl⟩
        · rcases List.mem_cons.1 h with rfl | h
          · exact .inl rfl
          · exact .inr ⟨x, h, rfl⟩
      · rcases List.mem_cons.1 h with rfl | h
        · exact .inr ⟨x, by simp, rfl⟩
        · rcases ins_mem h with h1 | ⟨y, hy, he⟩
          · exact .inl h1
          · exact .inr ⟨y, by simp [hy], he⟩
theorem ins_nz {t : MT} : ∀ {R : List MT}, (∀ x ∈ R, x.1 ≠ 0 ∧ w64 x.1 = x.1) → ∀ x ∈ ins t R, x.1 ≠ 0 ∧ w64 x.1 = x.1
  | [], _, x, h => by
    rw [ins] at h
    split at h
    · cases h
    · simp at h; subst h; exact ⟨by assumption, w64_wr _⟩
  | u :: r, hR, x, h => by
    rw [ins] at h
    split at h
    · split at h
      · exact hR x (by simp [h])
      · rcases List.mem_cons.1 h with rfl | h
        · exact ⟨by assumption, w64_wr _⟩
        · exact hR x (by simp [h])
    · split at h
      · split at h
        · exact hR x h
        · rcases List.mem_cons.1 h with rfl | h
          · exact ⟨by assumption, w64_wr _⟩
          · exact hR x h
      · rcases List.mem_cons.1 h with rfl | h
        · exact hR x (by simp)
        · exact ins_nz (fun y hy => hR y (by simp [hy])) x h
theorem ins_sum (t : MT) : ∀ (R : List MT) (v : List Int), Cg (csum (t :: R) v) (csum (ins t R) v)
  | [], v => by
    rw [ins]
    split
    · rename_i h
      have h0 : Cg t.1 0 := (Cg.w64 t.1).symm.trans (by rw [h]; exact Cg.refl _)
      by_cases e : t.2 = v
      · simp only [csum, if_pos e, Int.add_zero]; exact h0
      · simp only [csum, if_neg e]; exact Cg.refl _
    · by_cases e : t.2 = v
      · simp only [csum, if_pos e]; exact (Cg.w64 _).symm.add (Cg.refl _)
      · simp only [csum, if_neg e]; exact Cg.refl _
  | u :: r, v => by
    rw [ins]
    split
    · rename_i e0
      split
      · rename_i h
        have h0 : Cg (t.1 + u.1) 0 := (Cg.w64 _).symm.trans (by rw [h]; exact Cg.refl _)
        by_cases e : u.2 = v
        · simp only [csum, e0, if_pos e, ← Int.add_assoc]
          have := h0.add (Cg.refl (csum r v))
          rwa [Int.zero_add] at this
        · simp only [csum, e0, if_neg e, Int.zero_add]; exact Cg.refl _
      · by_cases e : u.2 = v
        · simp only [csum, e0, if_pos e, ← Int.add_assoc]
          exact (Cg.w64 _).symm.add (Cg.refl _)
        · simp only [csum, e0, if_neg e, Int.zero_add]; exact Cg.refl _
    · split
      · split
        · rename_i h
          have h0 : Cg t.1 0 := (Cg.w64 _).symm.trans (by rw [h]; exact Cg.refl _)
          rw [csum]
          by_cases e : t.2 = v
          · rw [if_pos e]
            have := h0.add (Cg.refl (csum (u :: r) v))
            rwa [Int.zero_add] at this
          · rw [if_neg e, Int.zero_add]; exact Cg.refl _
        · rw [csum]
          show Cg _ ((if t.2 = v then w64 t.1 else 0) + csum (u :: r) v)
          by_cases e : t.2 = v
          · rw [if_pos e, if_pos e]; exact (Cg.w64 _).symm.add (Cg.refl _)
          · rw [if_neg e, if_neg e]; exact Cg.refl _
      · have ih := ins_sum t r v
        simp only [csum] at ih ⊢
        unfold Cg at ih ⊢
        omega
theorem ins_sb {t : MT} (ht : t.2.length = 26) : ∀ {R : List MT}, SB R → (∀ x ∈ R, x.2.length = 26) → SB (ins t R)
  | [], _, _ => by
    rw [ins]
    split
    · exact List.Pairwise.nil
    · exact List.pairwise_singleton _ _
  | u :: r, h, hv => by
    obtain ⟨h1, h2⟩ := List.pairwise_cons.1 h
    rw [ins]
    split
    · split
      · exact h2
      · exact List.pairwise_cons.2 ⟨h1, h2⟩
    · rename_i e
      split
      · rename_i hb
        split
        · exact h
        · exact List.pairwise_cons.2 ⟨fun x hx => by
            rcases List.mem_cons.1 hx with rfl | hx
            · exact hb
            · exact before_trans hb (h1 x hx), h⟩
      · rename_i hb
        refine List.pairwise_cons.2 ⟨fun x hx => ?_, ins_sb ht h2 fun y hy => hv y (by simp [hy])⟩
        rcases ins_mem hx with h3 | ⟨y, hy, he⟩
        · rw [h3]
          exact (before_total (ht.trans (hv u (by simp)).symm) e).resolve_left hb
        · rw [← he]; exact h1 y hy
theorem nf_mem {x : MT} : ∀ {a : List MT}, x ∈ nf a → ∃ y ∈ a, y.2 = x.2
  | [], h => by cases h
  | t :: r, h => by
    rw [nf] at h
    rcases ins_mem h with h1 | ⟨y, hy, he⟩
    · exact ⟨t, by simp, h1.symm⟩
    · obtain ⟨z, hz, hze⟩ := nf_mem hy
      exact ⟨z, by simp [hz], hze.trans he⟩
theorem nf_norm : ∀ (a : List MT), (∀ t ∈ a, t.2.length = 26) → Norm a (nf a)
  | [], _ => ⟨List.Pairwise.nil, fun t ht => (by cases ht), fun t ht => (by cases ht), fun v => Cg.refl _⟩
  | t :: r, h => by
    have ih := nf_norm r fun x hx => h x (by simp [hx])
    refine ⟨ins_sb (h t (by simp)) ih.sb ih.vl, ins_nz ih.nz, fun x hx => ?_, fun v => ?_⟩
    · obtain ⟨y, hy, he⟩ := nf_mem (a := t :: r) hx
      rw [← he]; exact h y hy
    · refine Cg.trans ?_ (ins_sum t (nf r) v)
      rw [csum, csum]
      exact (Cg.refl _).add (ih.sum v)
theorem Norm.nf {a R : List MT} (h : Norm a R) (ha : ∀ t ∈ a, t.2.length = 26) : R = nf a := h.uniq (nf_norm a ha) fun v => Cg.refl _
theorem nf_cong {a b : List MT} (ha : ∀ t ∈ a, t.2.length = 26) (hb : ∀ t ∈ b, t.2.length = 26) (h : ∀ v, Cg (csum a v) (csum b v)) : nf a = nf b := (nf_norm a ha).uniq (nf_norm b hb) h
/-- the bounds that a result has to keep -/
def nfOk (R : List MT) : Bool := decide (R.length ≤ 4096) && R.all fun t => decide (isum t.2 ≤ 1000000)
def toP (R : List MT) : List PT := R.map fun t => (t.1, spF t.2 0)
end Go.Mw
