/-
  A region that draws, continued: operations that keep what was kept.
-/
import Derived.Test.YbxaawGreatDraw2
set_option linter.unusedVariables false
set_option linter.unusedSimpArgs false
namespace Go.Mw
section
variable {P : Program} {n : Nat} {Q : Exit → Act → World → Prop} {l : List (Nat × Value)} {w w0 : World} {ops : List Oper} {B : List Nat} {listed : List Bool} {fuel : Nat}
theorem D.oneS {d : Option Nat} {op : Op} {ty : TypeId} {pos : String} {af : Array Edge} (i : Nat) (listed' : List Bool)
    (hi : ops[i]? = some ⟨d, op, ty, pos, af, none⟩) (hr : (Region.ready .any ops.toArray listed.toArray == [i]) = true) (hl : listed.set i true = listed')
    (he : E P n ⟨d, op, ty, pos, af, none⟩ l w (fun l' w' => (B.contains i = false → LeC w0 w → LeC w0 w') ∧ D P n ops Q w0 B fuel listed' l' w')) : D P n ops Q w0 B (fuel + 1) listed l w :=
  ⟨fun a hf => by
    have hi' : ops.toArray[i]? = some ⟨d, op, ty, pos, af, none⟩ := by simpa using hi
    have hr' : Region.ready .any ops.toArray listed.toArray = [i] := by simpa using hr
    refine ⟨fun h => (by rw [hr'] at h; cases h), fun j hj => ?_⟩
    rw [hr'] at hj
    simp only [List.mem_singleton] at hj
    subst hj
    unfold wpOp
    simp only [hi']
    rw [if_pos (by simp [Region.wanted])]
    refine .inl (Oper.wp_mono (fun a' w' ⟨l', hf', h1, h2⟩ => ⟨fun hb hS => h1 hb hS, ?_⟩) (he.out Q a hf))
    have := h2.out a' hf'
    rw [← hl] at this
    simpa using this⟩
theorem D.twoS {d d' : Option Nat} {op op' : Op} {ty ty' : TypeId} {pos pos' : String} {af af' : Array Edge} (i j : Nat) (li lj : List Bool)
    (hi : ops[i]? = some ⟨d, op, ty, pos, af, none⟩) (hj : ops[j]? = some ⟨d', op', ty', pos', af', none⟩) (hr : (Region.ready .any ops.toArray listed.toArray == [i, j]) = true) (hl : listed.set i true = li) (hl' : listed.set j true = lj)
    (he : E P n ⟨d, op, ty, pos, af, none⟩ l w (fun l' w' => (B.contains i = false → LeC w0 w → LeC w0 w') ∧ D P n ops Q w0 B fuel li l' w'))
    (he' : E P n ⟨d', op', ty', pos', af', none⟩ l w (fun l' w' => (B.contains j = false → LeC w0 w → LeC w0 w') ∧ D P n ops Q w0 B fuel lj l' w')) : D P n ops Q w0 B (fuel + 1) listed l w :=
  ⟨fun a hf => by
    have hi' : ops.toArray[i]? = some ⟨d, op, ty, pos, af, none⟩ := by simpa using hi
    have hj' : ops.toArray[j]? = some ⟨d', op', ty', pos', af', none⟩ := by simpa using hj
    have hr' : Region.ready .any ops.toArray listed.toArray = [i, j] := by simpa using hr
    refine ⟨fun h => (by rw [hr'] at h; cases h), fun k hk => ?_⟩
    rw [hr'] at hk
    simp only [List.mem_cons, List.not_mem_nil, or_false] at hk
    rcases hk with rfl | rfl
    · unfold wpOp
      simp only [hi']
      rw [if_pos (by simp [Region.wanted])]
      refine .inl (Oper.wp_mono (fun a' w' ⟨l', hf', h1, h2⟩ => ⟨fun hb hS => h1 hb hS, ?_⟩) (he.out Q a hf))
      have := h2.out a' hf'
      rw [← hl] at this
      simpa using this
    · unfold wpOp
      simp only [hj']
      rw [if_pos (by simp [Region.wanted])]
      refine .inl (Oper.wp_mono (fun a' w' ⟨l', hf', h1, h2⟩ => ⟨fun hb hS => h1 hb hS, ?_⟩) (he'.out Q a hf))
      have := h2.out a' hf'
      rw [← hl'] at this
      simpa using this⟩
end
end Go.Mw
