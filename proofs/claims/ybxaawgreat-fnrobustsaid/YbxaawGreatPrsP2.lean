/-
  The parser, plain: a tree has no more nodes than there were tokens.
-/
import Derived.Test.YbxaawGreatPrsM2
set_option linter.unusedVariables false
set_option linter.unusedSimpArgs false
namespace Go.Mw
def Tz (f : Nat → List TK → PR) : Prop := ∀ d r t r', f d r = some (t, r') → tsz t + r'.length ≤ r.length
section
variable {c : Bool} {E : Nat → List TK → PR}
theorem prim_tz (hE : Tz E) : Tz (prim c E) := fun d r t r' h => by
  unfold prim at h
  split at h
  · rename_i h1
    have := tail_len (r := r) (by omega)
    simp only [Option.some.injEq, Prod.mk.injEq] at h; rw [← h.1, ← h.2, tsz_lf]; omega
  · split at h
    · rename_i h1
      have := tail_len (r := r) (by omega)
      simp only [Option.some.injEq, Prod.mk.injEq] at h; rw [← h.1, ← h.2, tsz_lf]; omega
    · split at h
      · rename_i h1
        have := tail_len (r := r) (by omega)
        split at h
        · cases h
        · split at h
          · cases h
          · rename_i t2 r2 he
            split at h
            · have h3 := hE _ _ _ _ he
              simp only [Option.some.injEq, Prod.mk.injEq] at h; rw [← h.1, ← h.2, List.length_tail]; omega
            · cases h
      · cases h
theorem powr_tz (hE : Tz E) : Tz (powr c E) := fun d r t r' h => by
  unfold powr at h
  split at h
  · cases h
  · rename_i t1 r1 he
    have h1 := prim_tz hE _ _ _ _ he
    split at h
    · rename_i h6
      have := tail_len (r := r1) (by omega)
      split at h
      · simp only [Option.some.injEq, Prod.mk.injEq] at h; rw [← h.1, ← h.2, tsz_u1, List.length_tail]; omega
      · cases h
    · simp only [Option.some.injEq, Prod.mk.injEq] at h; rw [← h.1, ← h.2]; exact h1
theorem lead_le : ∀ r : List TK, lead r ≤ r.length
  | [] => Nat.le_refl _
  | t :: r => by
    rw [lead]
    split
    · have := lead_le r; simp; omega
    · simp
theorem unry_tz (hE : Tz E) : Tz (unry c E) := fun d r t r' h => by
  unfold unry at h
  split at h
  · cases h
  · rename_i t1 r1 he
    have h1 := powr_tz hE _ _ _ _ he
    have h2 := lead_le r
    rw [List.length_drop] at h1
    simp only [Option.some.injEq, Prod.mk.injEq] at h; rw [← h.1, ← h.2, tsz_negs]; omega
theorem tloop_tz (hE : Tz E) (d : Nat) : ∀ (n : Nat) (l : Tre) (r : List TK) (t : Tre) (r' : List TK), tloop c E d n l r = some (t, r') → tsz t + r'.length ≤ tsz l + r.length
  | 0, l, r, t, r', h => by rw [tloop] at h; simp only [Option.some.injEq, Prod.mk.injEq] at h; rw [← h.1, ← h.2]; omega
  | n + 1, l, r, t, r', h => by
    rw [tloop] at h
    split at h
    · rename_i h5
      have := tail_len (r := r) (by omega)
      split at h
      · cases h
      · rename_i x r1 he
        have h1 := unry_tz hE _ _ _ _ he
        have h2 := tloop_tz hE d n _ _ _ _ h
        rw [tsz_b2] at h2; omega
    · simp only [Option.some.injEq, Prod.mk.injEq] at h; rw [← h.1, ← h.2]; omega
theorem trm_tz (hE : Tz E) : Tz (trm c E) := fun d r t r' h => by
  unfold trm at h
  split at h
  · cases h
  · rename_i l r1 he
    have h1 := unry_tz hE _ _ _ _ he
    have h2 := tloop_tz hE d _ _ _ _ _ h
    omega
theorem eloop_tz (hE : Tz E) (d : Nat) : ∀ (n : Nat) (l : Tre) (r : List TK) (t : Tre) (r' : List TK), eloop c E d n l r = some (t, r') → tsz t + r'.length ≤ tsz l + r.length
  | 0, l, r, t, r', h => by rw [eloop] at h; simp only [Option.some.injEq, Prod.mk.injEq] at h; rw [← h.1, ← h.2]; omega
  | n + 1, l, r, t, r', h => by
    rw [eloop] at h
    split at h
    · rename_i h5
      have := tail_len (r := r) (by omega)
      split at h
      · cases h
      · rename_i x r1 he
        have h1 := trm_tz hE _ _ _ _ he
        have h2 := eloop_tz hE d n _ _ _ _ h
        rw [tsz_b2] at h2; omega
    · simp only [Option.some.injEq, Prod.mk.injEq] at h; rw [← h.1, ← h.2]; omega
theorem expr_tz (hE : Tz E) : Tz (expr c E) := fun d r t r' h => by
  unfold expr at h
  split at h
  · cases h
  · rename_i l r1 he
    have h1 := trm_tz hE _ _ _ _ he
    have h2 := eloop_tz hE d _ _ _ _ _ h
    omega
end
theorem pE_tz (c : Bool) : ∀ n, Tz (pE c n)
  | 0 => fun d r t r' h => by cases h
  | n + 1 => expr_tz (pE_tz c n)
theorem parse_bad {ts : List TK} (h : ts.length = 0 ∨ 2000000 < ts.length ∨ ts.all tokOk = false ∨ dl ts 0 = none) : parseP ts = none := by unfold parseP; rw [if_pos h]
theorem tall_snoc {a : List TK} {k : Nat} {x : TK} (h : a[k]? = some x) (ha : (a.take k).all tokOk = true) (hx : tokOk x = true) : (a.take (k + 1)).all tokOk = true := by
  obtain ⟨h1, h2⟩ := List.getElem?_eq_some_iff.1 h
  rw [List.take_succ_eq_append_getElem h1, h2, List.all_append, ha, Bool.true_and]; simp [hx]
theorem tall_bad {a : List TK} {k : Nat} {x : TK} (h : a[k]? = some x) (hx : tokOk x = false) : a.all tokOk = false := by
  rw [List.all_eq_false]
  exact ⟨x, List.mem_of_getElem? h, by simp [hx]⟩
theorem dl_at {a : List TK} {k d : Nat} {x : TK} (h : a[k]? = some x) : dl (a.drop k) d = if x.1 = 7 then (if 5000 < d + 1 then none else dl (a.drop (k + 1)) (d + 1)) else if x.1 = 8 then dl (a.drop (k + 1)) (d - 1) else dl (a.drop (k + 1)) d := by
  obtain ⟨h1, h2⟩ := List.getElem?_eq_some_iff.1 h
  rw [List.drop_eq_getElem_cons h1, h2, dl]
/-- what parsing gives back -/
def XPost (eN : TypeId) (R : Option Tre) (w : World) (v : Value) (w' : World) : Prop := ∃ (nv : Value) (ns : List Nd) (root : Int), v = .tuple #[.agg #[nv, .int .i64 root], .bool R.isSome] ∧ w'.ownsRow w.heap.size eN 5 nv ns.length (ns.flatMap ndE) ∧ (∀ t, R = some t → ns = flat t 0 ∧ root = (tsz t : Int) - 1) ∧ (R = none → ns = [] ∧ root = 0) ∧ Ext w.heap.size w w'
theorem XPost.bad {eN : TypeId} {R : Option Tre} {w w' : World} (h : R = none) (he : Ext w.heap.size w w') : XPost eN R w (.tuple #[.agg #[.slice none 0 0, .int .i64 0], .bool false]) w' :=
  ⟨_, [], 0, by rw [h]; rfl, World.ownsRow_nil _ _ _ _, fun t ht => (by rw [h] at ht; cases ht), fun _ => ⟨rfl, rfl⟩, he⟩
end Go.Mw
