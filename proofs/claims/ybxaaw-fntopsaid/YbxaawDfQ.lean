/-
  The derivative in a pool that points back into the source: plain.
-/
import Derived.Test.YbxaawDfP
set_option linter.unusedVariables false
set_option linter.unusedSimpArgs false
namespace Go.Mw
abbrev DR := Bool × Int
abbrev DN := Int × Int × Int × DR × DR
def drE (p : DR) : List Value := [.bool p.1, .int .i64 p.2]
def dnE (d : DN) : List Value := [.int .i64 d.1, .int .i64 d.2.1, .int .i64 d.2.2.1, .bool d.2.2.2.1.1, .int .i64 d.2.2.2.1.2, .bool d.2.2.2.2.1, .int .i64 d.2.2.2.2.2]
theorem drE_len (p : DR) : (drE p).length = 2 := rfl
theorem dnE_len (d : DN) : (dnE d).length = 7 := rfl
theorem drE_one (t : DR) : ∀ u ∈ drE t, u.oneCell' = true := by
  intro u hu
  simp only [drE, List.mem_cons, List.not_mem_nil, or_false] at hu
  rcases hu with rfl | rfl <;> rfl
theorem dnE_one (t : DN) : ∀ u ∈ dnE t, u.oneCell' = true := by
  intro u hu
  simp only [dnE, List.mem_cons, List.not_mem_nil, or_false] at hu
  rcases hu with rfl | rfl | rfl | rfl | rfl | rfl | rfl <;> rfl
section
variable (S : List Tre) (pool : List DN)
/-- a reference stands for a tree -/
def Rf : Tre → DR → Prop
  | ⟨k, v, x, 0, c⟩, p => (p.1 = true ∧ ∃ j : Nat, p.2 = j ∧ S[j]? = some ⟨k, v, x, 0, c⟩) ∨ (p.1 = false ∧ ∃ (j : Nat) (l r : DR), p.2 = j ∧ pool[j]? = some (k, v, x, l, r))
  | ⟨k, v, x, 1, c⟩, p => (p.1 = true ∧ ∃ j : Nat, p.2 = j ∧ S[j]? = some ⟨k, v, x, 1, c⟩) ∨ (p.1 = false ∧ ∃ (j : Nat) (l r : DR), p.2 = j ∧ pool[j]? = some (k, v, x, l, r) ∧ Rf (c 0) l)
  | ⟨k, v, x, n + 2, c⟩, p => (p.1 = true ∧ ∃ j : Nat, p.2 = j ∧ S[j]? = some ⟨k, v, x, n + 2, c⟩) ∨ (p.1 = false ∧ ∃ (j : Nat) (l r : DR), p.2 = j ∧ pool[j]? = some (k, v, x, l, r) ∧ Rf (c 0) l ∧ Rf (c 1) r)
end
section
variable {S : List Tre} {pool ex : List DN}
theorem Rf.src {t : Tre} {j : Nat} (h : S[j]? = some t) : Rf S pool t (true, (j : Int)) := by
  match t, h with
  | ⟨k, v, x, 0, c⟩, h => exact .inl ⟨rfl, j, rfl, h⟩
  | ⟨k, v, x, 1, c⟩, h => exact .inl ⟨rfl, j, rfl, h⟩
  | ⟨k, v, x, n + 2, c⟩, h => exact .inl ⟨rfl, j, rfl, h⟩
theorem Rf.app : ∀ (t : Tre) (p : DR), Rf S pool t p → Rf S (pool ++ ex) t p := by
  refine Tre.ind (fun k v x c p h => ?_) (fun k v x c ih p h => ?_) (fun k v x n c ih1 ih2 p h => ?_)
  · exact or_map h id fun ⟨h1, j, l, r, h2, h3⟩ => ⟨h1, j, l, r, h2, app_some h3⟩
  · exact or_map h id fun ⟨h1, j, l, r, h2, h3, h4⟩ => ⟨h1, j, l, r, h2, app_some h3, ih _ h4⟩
  · exact or_map h id fun ⟨h1, j, l, r, h2, h3, h4, h5⟩ => ⟨h1, j, l, r, h2, app_some h3, ih1 _ h4, ih2 _ h5⟩
theorem Rf.leaf (k v x : Int) (l r : DR) : Rf S (pool ++ [(k, v, x, l, r)]) (lf k v x) (false, (pool.length : Int)) := .inr ⟨rfl, pool.length, l, r, rfl, last_get _ _⟩
theorem Rf.un {a : Tre} {l : DR} (k v : Int) (r : DR) (h : Rf S pool a l) : Rf S (pool ++ [(k, v, 0, l, r)]) (u1 k v a) (false, (pool.length : Int)) := .inr ⟨rfl, pool.length, l, r, rfl, last_get _ _, h.app _ _⟩
theorem Rf.bin {a b : Tre} {l r : DR} (k : Int) (h : Rf S pool a l) (h2 : Rf S pool b r) : Rf S (pool ++ [(k, 0, 0, l, r)]) (b2 k a b) (false, (pool.length : Int)) := .inr ⟨rfl, pool.length, l, r, rfl, last_get _ _, h.app _ _, h2.app _ _⟩
/-- what a node on the stack gives -/
def CsR (S : List Tre) (pool : List DN) (t : Tre) (k v x : Int) (l r : DR) : Prop :=
  ((k = 1 ∨ k = 2) ∧ prR t = [(k, v, x, 0, 0)]) ∨ ((k = 3 ∨ k = 7) ∧ ∃ a, prR t = (k, v, x, 0, 0) :: prR a ∧ Rf S pool a l ∧ Wt a) ∨
  ((k = 4 ∨ k = 5 ∨ k = 6) ∧ ∃ a b, prR t = (k, v, x, 0, 0) :: (prR b ++ prR a) ∧ Rf S pool a l ∧ Rf S pool b r ∧ Wt a ∧ Wt b)
theorem Rf.cases {ns : List Nd} (hSb : Sb ns S) {t : Tre} {p : DR} (h : Rf S pool t p) (hw : Wt t) : ∃ (j : Nat) (k v x : Int) (l r : DR), p.2 = j ∧ CsR S pool t k v x l r ∧
    ((p.1 = true ∧ ∃ li ri : Int, ns[j]? = some (k, v, x, li, ri) ∧ l = (true, li) ∧ r = (true, ri)) ∨ (p.1 = false ∧ pool[j]? = some (k, v, x, l, r))) := by
  have src : ∀ j : Nat, p.1 = true → p.2 = j → S[j]? = some t → ∃ (j : Nat) (k v x : Int) (l r : DR), p.2 = j ∧ CsR S pool t k v x l r ∧
      ((p.1 = true ∧ ∃ li ri : Int, ns[j]? = some (k, v, x, li, ri) ∧ l = (true, li) ∧ r = (true, ri)) ∨ (p.1 = false ∧ pool[j]? = some (k, v, x, l, r))) := by
    intro j h1 h2 h3
    have hl := (List.getElem?_eq_some_iff.1 h3).1
    obtain ⟨⟨k, v, x, li, ri⟩, hn⟩ := nth_of_lt ns j (by rw [hSb.len]; exact hl)
    obtain ⟨hok, hws⟩ := hSb.ok j _ t hn h3
    refine ⟨j, k, v, x, (true, li), (true, ri), h2, ?_, .inl ⟨h1, li, ri, hn, rfl, rfl⟩⟩
    rcases sok_cases hok hws with ⟨v', e1, e2⟩ | ⟨x', e1, e2, e3⟩ | ⟨a, i, e1, e2, e3, e4, e5⟩ | ⟨v', a, i, e1, e2, e3, e4, e5, e6⟩ | ⟨k', a, b, i, i2, e1, e2, e3, e4, e5, e6, e7, e8, e9⟩ <;> simp only [Prod.mk.injEq] at e2
    · obtain ⟨rfl, rfl, rfl, -⟩ := e2; subst e1; exact .inl ⟨.inl rfl, rfl⟩
    · obtain ⟨rfl, rfl, rfl, -⟩ := e2; subst e1; exact .inl ⟨.inr rfl, rfl⟩
    · obtain ⟨rfl, rfl, rfl, rfl, -⟩ := e2; subst e1; exact .inr (.inl ⟨.inl rfl, a, rfl, Rf.src e4, e5⟩)
    · obtain ⟨rfl, rfl, rfl, rfl, -⟩ := e2; subst e1; exact .inr (.inl ⟨.inr rfl, a, rfl, Rf.src e4, e5⟩)
    · obtain ⟨rfl, rfl, rfl, rfl, rfl⟩ := e2; subst e1; exact .inr (.inr ⟨e3, a, b, rfl, Rf.src e6, Rf.src e7, e8, e9⟩)
  match t, h, hw with
  | ⟨k, v, x, 0, c⟩, h, hw =>
    rcases h with ⟨h1, j, h2, h3⟩ | ⟨h1, j, l, r, h2, h3⟩
    · exact src j h1 h2 h3
    · exact ⟨j, k, v, x, l, r, h2, .inl ⟨or_map hw (fun e => e.1) (fun e => e.1), rfl⟩, .inr ⟨h1, h3⟩⟩
  | ⟨k, v, x, 1, c⟩, h, hw =>
    rcases h with ⟨h1, j, h2, h3⟩ | ⟨h1, j, l, r, h2, h3, h4⟩
    · exact src j h1 h2 h3
    · obtain ⟨hx, hk, hw1⟩ := hw
      exact ⟨j, k, v, x, l, r, h2, .inr (.inl ⟨or_map hk (fun e => e.1) (fun e => e.1), c 0, rfl, h4, hw1⟩), .inr ⟨h1, h3⟩⟩
  | ⟨k, v, x, n + 2, c⟩, h, hw =>
    rcases h with ⟨h1, j, h2, h3⟩ | ⟨h1, j, l, r, h2, h3, h4, h5⟩
    · exact src j h1 h2 h3
    · obtain ⟨hn, hv, hx, hk, hw1, hw2⟩ := hw
      exact ⟨j, k, v, x, l, r, h2, .inr (.inr ⟨hk, c 0, c 1, rfl, h4, h5, hw1, hw2⟩), .inr ⟨h1, h3⟩⟩
/-- the stack -/
def StkD (S : List Tre) (pool : List DN) : List Tre → List DR → Prop
  | [], [] => True
  | t :: L, i :: I => Rf S pool t i ∧ StkD S pool L I
  | _, _ => False
theorem StkD.len : ∀ {L : List Tre} {I : List DR}, StkD S pool L I → L.length = I.length
  | [], [], _ => rfl
  | t :: L, i :: I, h => by simp [StkD.len h.2]
  | [], _ :: _, h => h.elim
  | _ :: _, [], h => h.elim
theorem StkD.snoc {t : Tre} {i : DR} (ht : Rf S pool t i) : ∀ {L : List Tre} {I : List DR}, StkD S pool L I → StkD S pool (L ++ [t]) (I ++ [i])
  | [], [], _ => ⟨ht, trivial⟩
  | s :: L, j :: I, h => ⟨h.1, StkD.snoc ht h.2⟩
  | [], _ :: _, h => h.elim
  | _ :: _, [], h => h.elim
theorem StkD.pop : ∀ {L : List Tre} {I : List DR}, StkD S pool L I → I ≠ [] → ∃ L' I' t i, L = L' ++ [t] ∧ I = I' ++ [i] ∧ StkD S pool L' I' ∧ Rf S pool t i
  | [], [], _, h => absurd rfl h
  | [t], [i], h, _ => ⟨[], [], t, i, rfl, rfl, trivial, h.1⟩
  | s :: t :: L, j :: i :: I, h, _ => by
    obtain ⟨L', I', t', i', h1, h2, h3, h4⟩ := StkD.pop h.2 (by simp)
    exact ⟨s :: L', j :: I', t', i', by rw [h1]; rfl, by rw [h2]; rfl, ⟨h.1, h3⟩, h4⟩
  | [], _ :: _, h, _ => h.elim
  | _ :: _, [], h, _ => h.elim
  | [_], _ :: _ :: _, h, _ => h.2.elim
  | _ :: _ :: _, [_], h, _ => h.2.elim
end
theorem fm_cut {α : Type} {enc : α → List Value} {sz : Nat} (h : ∀ x, (enc x).length = sz) (I : List α) (i : α) : (I ++ [i]).flatMap enc = I.flatMap enc ++ ((I ++ [i]).flatMap enc).drop (I.length * sz) := by
  have hl := fm_length h I
  rw [List.flatMap_append, List.drop_append_of_le_length (by omega), List.drop_eq_nil_of_le (by omega), List.nil_append]
theorem ds_lf (k v x : Int) : ds (lf k v x) = 1 := rfl
end Go.Mw
