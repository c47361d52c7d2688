/-
  A region that draws, continued: two operations may come up.
-/
import Derived.Test.YbxaawDraw
set_option linter.unusedVariables false
set_option linter.unusedSimpArgs false
namespace Go.Mw
section
variable {P : Program} {n : Nat} {Q : Exit → Act → World → Prop} {l : List (Nat × Value)} {w w0 : World} {ops : List Oper} {B : List Nat} {listed : List Bool} {fuel : Nat}
theorem D.two {d d' : Option Nat} {op op' : Op} {ty ty' : TypeId} {pos pos' : String} {af af' : Array Edge} (i j : Nat) (li lj : List Bool)
    (hi : ops[i]? = some ⟨d, op, ty, pos, af, none⟩) (hj : ops[j]? = some ⟨d', op', ty', pos', af', none⟩) (hr : (Region.ready .any ops.toArray listed.toArray == [i, j]) = true) (hl : listed.set i true = li) (hl' : listed.set j true = lj)
    (he : E P n ⟨d, op, ty, pos, af, none⟩ l w (fun l' w' => (B.contains i = false → LeC w0 w') ∧ D P n ops Q w0 B fuel li l' w'))
    (he' : E P n ⟨d', op', ty', pos', af', none⟩ l w (fun l' w' => (B.contains j = false → LeC w0 w') ∧ D P n ops Q w0 B fuel lj l' w')) : D P n ops Q w0 B (fuel + 1) listed l w :=
  ⟨fun a hf => by
    have hi' : ops.toArray[i]? = some ⟨d, op, ty, pos, af, none⟩ := by simpa using hi
    have hj' : ops.toArray[j]? = some ⟨d', op', ty', pos', af', none⟩ := by simpa using hj
    have hr' : Region.ready .any ops.toArray listed.toArray = [i, j] := by simpa using hr
    refine ⟨fun h => (by rw [hr'] at h; cases h), fun k hk => ?_⟩
    rw [hr'] at hk
    simp only [List.mem_cons, List.not_mem_nil, or_false] at hk
    rcases hk with rfl | rfl
    · unfold wpOp
      simp only [hi']
      rw [if_pos (by simp [Region.wanted])]
      refine .inl (Oper.wp_mono (fun a' w' ⟨l', hf', h1, h2⟩ => ⟨fun hb _ => h1 hb, ?_⟩) (he.out Q a hf))
      have := h2.out a' hf'
      rw [← hl] at this
      simpa using this
    · unfold wpOp
      simp only [hj']
      rw [if_pos (by simp [Region.wanted])]
      refine .inl (Oper.wp_mono (fun a' w' ⟨l', hf', h1, h2⟩ => ⟨fun hb _ => h1 hb, ?_⟩) (he'.out Q a hf))
      have := h2.out a' hf'
      rw [← hl'] at this
      simpa using this⟩
end
section
variable {P : Program} {ops : Array Oper} {Q : Exit → Act → World → Prop} {md : Region.Mode} {S : World → Prop} {B : List Nat}
/-- Operation o waits for number i, at first or at later hand. -/
def wtN (md : Region.Mode) (ops : Array Oper) (listed : Array Bool) (i : Nat) : Nat → Oper → Bool
  | 0, o => o.after.any fun e => Region.binds md e && e.on == i
  | k + 1, o => o.after.any fun e => Region.binds md e && (e.on == i || (listed.getD e.on true == false && match ops[e.on]? with
      | some om => wtN md ops listed i k om
      | none => false))
theorem wtN_dep {listed : Array Bool} {i : Nat} (hi : listed.getD i true = false) : ∀ (k : Nat) (o : Oper), wtN md ops listed i k o = true → ∃ e ∈ o.after, Region.binds md e = true ∧ listed.getD e.on true = false
  | 0, o, h => by
    rw [wtN, Array.any_eq_true'] at h
    obtain ⟨e, he, h⟩ := h
    simp only [Bool.and_eq_true, beq_iff_eq] at h
    exact ⟨e, he, h.1, by rw [h.2]; exact hi⟩
  | k + 1, o, h => by
    rw [wtN, Array.any_eq_true'] at h
    obtain ⟨e, he, h⟩ := h
    simp only [Bool.and_eq_true, Bool.or_eq_true, beq_iff_eq] at h
    refine ⟨e, he, h.1, ?_⟩
    rcases h.2 with h2 | h2
    · rw [h2]; exact hi
    · exact h2.1
theorem unl_not {listed : Array Bool} {q : Nat} (h1 : listed.getD q true = false) (h2 : listed.getD q false = true) : False := by
  rcases Nat.lt_or_ge q listed.size with h' | h'
  · simp [h'] at h1 h2; rw [h1] at h2; cases h2
  · simp [Array.getElem?_eq_none h'] at h2
theorem wtN_keep {listed : Array Bool} {i j : Nat} (hi : listed.getD i true = false) (hj : j ∈ Region.ready md ops listed) : ∀ (k : Nat) (o : Oper), wtN md ops listed i k o = true → wtN md ops (listed.setIfInBounds j true) i k o = true
  | 0, o, h => by rw [wtN] at h ⊢; exact h
  | k + 1, o, h => by
    rw [wtN, Array.any_eq_true'] at h ⊢
    obtain ⟨e, he, h⟩ := h
    refine ⟨e, he, ?_⟩
    simp only [Bool.and_eq_true, Bool.or_eq_true, beq_iff_eq] at h ⊢
    refine ⟨h.1, or_map h.2 id fun ⟨h1, h2⟩ => ?_⟩
    split at h2
    · rename_i om hom
      have hne : j ≠ e.on := fun hje => by
        obtain ⟨-, oj, hoj, hall⟩ := mem_ready.1 hj
        rw [hje, hom] at hoj
        simp only [Option.some.injEq] at hoj
        subst hoj
        obtain ⟨e2, he2, hb2, hu2⟩ := wtN_dep hi k om h2
        exact unl_not hu2 (hall e2 he2 hb2)
      refine ⟨by rw [getD_set_ne true hne]; exact h1, ?_⟩
      exact wtN_keep hi hj k om h2
    · cases h2
theorem AnyS_firstW {i : Nat} {oi : Oper} {v : Value} (N : Nat) (hi : ops[i]? = some oi) (hsel : ∀ (j : Nat) (o : Oper) cs b, ops[j]? = some o → o.op ≠ .select cs b)
    (hQ : ∀ c a w, Q (.panic c) (a.put oi.dst v) w → Q (.panic c) a w) :
    ∀ (fuel : Nat) (listed : Array Bool) (a : Act) (w : World),
      (∀ j oj, ops[j]? = some oj → B.contains j = true → wtN md ops listed i N oj = true) →
      (∀ j oj, ops[j]? = some oj → j ≠ i → listed.getD j true = false → (∀ e ∈ oj.after, Region.binds md e = true → e.on ≠ i) → oi.apart ops oj = true) →
      i ∈ Region.ready md ops listed → Yl P ops S oi v a → S w →
      AnyS P md ops Q S B fuel (listed.setIfInBounds i true) (a.put oi.dst v) w → AnyS P md ops Q S B (fuel + 1) listed a w := by
  intro fuel
  induction fuel with
  | zero =>
    intro listed a w _ _ hr hy hS H
    refine ⟨fun h => (by rw [h] at hr; cases hr), fun j hj => ?_⟩
    by_cases hji : j = i
    · subst hji; exact hy.wpOp hi hS ⟨fun _ _ => hS, H⟩
    · have := ready_mono hj hji
      rw [H.1] at this
      cases this
  | succ fuel ih =>
    intro listed a w hB hfree hr hy hS H
    refine ⟨fun h => (by rw [h] at hr; cases hr), fun j hj => ?_⟩
    by_cases hji : j = i
    · subst hji; exact hy.wpOp hi hS ⟨fun _ _ => hS, H⟩
    · have h1 := H.2 j (ready_mono hj hji)
      have hiu := (mem_ready.1 hr).1
      obtain ⟨hjun, oj, hoj, hall⟩ := mem_ready.1 hj
      have hnot : ∀ e ∈ oj.after, Region.binds md e = true → e.on ≠ i := fun e he hb heq => by
        have h1 := hall e he hb
        rw [heq] at h1
        exact unl_not hiu h1
      have hjB : B.contains j = false := by
        cases hc : B.contains j with
        | false => rfl
        | true =>
          obtain ⟨e, he, hb, hu⟩ := wtN_dep hiu N oj (hB j oj hoj hc)
          exact (unl_not hu (hall e he hb)).elim
      have h2 := wpOp_late hoj (hfree j oj hoj hji hjun hnot) (fun cs b => hsel i oi cs b hi) (fun cs b => hsel j oj cs b hoj) hQ hy h1
      have hfree' : ∀ k ok, ops[k]? = some ok → k ≠ i → (listed.setIfInBounds j true).getD k true = false →
          (∀ e ∈ ok.after, Region.binds md e = true → e.on ≠ i) → oi.apart ops ok = true := fun k ok hk hki hun hno => by
        refine hfree k ok hk hki ?_ hno
        by_cases hjk : j = k
        · subst hjk; exact hjun
        · rw [getD_set_ne true hjk] at hun; exact hun
      refine wpOp_mono (fun a' w' h3 => ⟨fun _ _ => h3.2.1 hjB hS, ih (listed.setIfInBounds j true) a' w' (fun k ok hk hc => wtN_keep hiu hj N ok (hB k ok hk hc)) hfree' (ready_mono hr (Ne.symm hji)) h3.1 (h3.2.1 hjB hS) ?_⟩) h2
      rw [Array.setIfInBounds_comm _ _ hji]
      exact h3.2.2
/-- Every operation of B waits for number i. -/
def waitsN (md : Region.Mode) (ops : Array Oper) (listed : Array Bool) (B : List Nat) (i N : Nat) : Bool :=
  B.all fun j => match ops[j]? with
    | some oj => wtN md ops listed i N oj
    | none => true
theorem waitsN_spec {i N : Nat} {listed : Array Bool} (h : waitsN md ops listed B i N = true) (j : Nat) (oj : Oper) (hj : ops[j]? = some oj) (hB : B.contains j = true) : wtN md ops listed i N oj = true := by
  unfold waitsN at h
  rw [List.all_eq_true] at h
  have h1 := h j (by simpa using hB)
  simpa only [hj] using h1
end
section
variable {P : Program} {n : Nat} {Q : Exit → Act → World → Prop} {l : List (Nat × Value)} {w w0 : World} {ops : List Oper} {B : List Nat} {listed : List Bool} {fuel : Nat}
theorem D.takeW {d : Nat} {op : Op} {ty : TypeId} {pos : String} {af : Array Edge} {v : Value} (i : Nat) (listed' : List Bool) (hQ : NoP Q)
    (hi : ops[i]? = some ⟨some d, op, ty, pos, af, none⟩) (hr : Rd P ⟨some d, op, ty, pos, af, none⟩ l w0 v) (hd : Nat.blt d n = true)
    (hc : (Region.noSelect ops.toArray && Region.free .any ops.toArray listed.toArray i && (Region.ready .any ops.toArray listed.toArray).contains i && waitsN .any ops.toArray listed.toArray B i 6) = true) (hl : listed.set i true = listed')
    (hle : LeC w0 w) (h : D P n ops Q w0 B fuel listed' ((d, v) :: l) w) : D P n ops Q w0 B (fuel + 1) listed l w :=
  ⟨fun a hf => by
    simp only [Bool.and_eq_true] at hc
    obtain ⟨⟨⟨h1, h2⟩, h3⟩, h4⟩ := hc
    have hi' : ops.toArray[i]? = some ⟨some d, op, ty, pos, af, none⟩ := by simpa using hi
    refine AnyS_firstW (oi := ⟨some d, op, ty, pos, af, none⟩) (v := v) 6 hi' (Region.noSelect_spec h1) (fun c a w => hQ.out c a _ _ w) fuel listed.toArray a w (waitsN_spec h4) (Region.free_spec hi' h2) (by simpa using h3)
      (Or.inl ⟨by simp [Region.wanted], fun w' hw' => hr.out a.eval (fun x u => hf.ev) w' hw'⟩) hle ?_
    have := h.out _ (hf.put v hd)
    rw [← hl] at this
    simpa using this⟩
end
end Go.Mw
