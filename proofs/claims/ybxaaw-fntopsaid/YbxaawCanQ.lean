/-
  Subtrees in postorder, trees in a pool, the order of the stack: plain.
-/
import Derived.Test.YbxaawCanP
set_option linter.unusedVariables false
set_option linter.unusedSimpArgs false
namespace Go.Mw
def subs : Tre → List Tre
  | ⟨k, v, x, 0, c⟩ => [⟨k, v, x, 0, c⟩]
  | ⟨k, v, x, 1, c⟩ => subs (c 0) ++ [⟨k, v, x, 1, c⟩]
  | ⟨k, v, x, n + 2, c⟩ => subs (c 0) ++ subs (c 1) ++ [⟨k, v, x, n + 2, c⟩]
theorem subs_len : ∀ t : Tre, (subs t).length = tsz t := Tre.ind (fun k v x c => rfl)
  (fun k v x c ih => by rw [subs, List.length_append, ih, tsz]; simp only [List.length_cons, List.length_nil]; omega)
  (fun k v x n c ih1 ih2 => by rw [subs, List.length_append, List.length_append, ih1, ih2, tsz]; simp only [List.length_cons, List.length_nil]; omega)
/-- node i stands for the subtree s -/
def sok (S : List Tre) (i : Nat) (nd : Nd) : Tre → Prop
  | ⟨k, v, x, 0, _⟩ => nd = (k, v, x, -1, -1)
  | ⟨k, v, x, 1, c⟩ => ∃ j : Nat, j < i ∧ S[j]? = some (c 0) ∧ nd = (k, v, x, (j : Int), -1)
  | ⟨k, v, x, _ + 2, c⟩ => ∃ j j2 : Nat, j < i ∧ j2 < i ∧ S[j]? = some (c 0) ∧ S[j2]? = some (c 1) ∧ nd = (k, v, x, (j : Int), (j2 : Int))
theorem sok.mono {S T : List Tre} {i : Nat} {nd : Nd} : ∀ {s : Tre}, sok S i nd s → sok (S ++ T) i nd s := by
  intro s h
  match s, h with
  | ⟨k, v, x, 0, c⟩, h => exact h
  | ⟨k, v, x, 1, c⟩, ⟨j, h1, h2, h3⟩ => exact ⟨j, h1, app_some h2, h3⟩
  | ⟨k, v, x, n + 2, c⟩, ⟨j, j2, h1, h2, h3, h4, h5⟩ => exact ⟨j, j2, h1, h2, app_some h3, app_some h4, h5⟩
structure Sb (ns : List Nd) (S : List Tre) : Prop where
  len : ns.length = S.length
  ok : ∀ (i : Nat) (nd : Nd) (s : Tre), ns[i]? = some nd → S[i]? = some s → sok S i nd s ∧ Wt s
theorem Sb.nil : Sb [] [] := ⟨rfl, fun i nd s h => by simp at h⟩
theorem Sb.snoc {ns : List Nd} {S : List Tre} {nd : Nd} {s : Tre} (h : Sb ns S) (hn : sok (S ++ [s]) ns.length nd s) (hw : Wt s) : Sb (ns ++ [nd]) (S ++ [s]) := by
  refine ⟨by simp [h.len], fun i nd' s' hi hs => ?_⟩
  by_cases hl : i < ns.length
  · rw [List.getElem?_append_left hl] at hi
    rw [List.getElem?_append_left (by rw [← h.len]; exact hl)] at hs
    exact ⟨(h.ok i nd' s' hi hs).1.mono, (h.ok i nd' s' hi hs).2⟩
  · have hlt := (List.getElem?_eq_some_iff.1 hi).1
    rw [List.length_append] at hlt
    simp only [List.length_cons, List.length_nil] at hlt
    obtain rfl : i = ns.length := by omega
    rw [last_get] at hi
    rw [h.len, last_get] at hs
    simp only [Option.some.injEq] at hi hs
    subst hi hs
    exact ⟨hn, hw⟩
theorem subs_last : ∀ (t : Tre) (SA : List Tre), (SA ++ subs t)[SA.length + tsz t - 1]? = some t := by
  have key : ∀ (SA : List Tre) (U : List Tre) (s : Tre) (n : Nat), n = U.length + 1 → (SA ++ (U ++ [s]))[SA.length + n - 1]? = some s := fun SA U s n hn => by
    rw [← List.append_assoc, show SA.length + n - 1 = (SA ++ U).length by rw [List.length_append]; omega]
    exact last_get _ _
  refine Tre.ind (fun k v x c SA => ?_) (fun k v x c ih SA => ?_) (fun k v x n c ih1 ih2 SA => ?_)
  · exact key SA [] _ 1 rfl
  · rw [subs, key SA (subs (c 0)) _ _ (by rw [tsz, subs_len]; omega)]
  · rw [subs, key SA (subs (c 0) ++ subs (c 1)) _ _ (by rw [tsz, List.length_append, subs_len, subs_len]; omega)]
theorem sb_flat : ∀ (t : Tre), Wt t → ∀ (A : List Nd) (SA : List Tre), Sb A SA → Sb (A ++ flat t A.length) (SA ++ subs t) := by
  refine Tre.ind (fun k v x c hw A SA h => ?_) (fun k v x c ih hw A SA h => ?_) (fun k v x n c ih1 ih2 hw A SA h => ?_)
  · exact h.snoc rfl hw
  · have hw0 := hw
    obtain ⟨hx, hk, hw1⟩ := hw
    have h1 := ih hw1 A SA h
    rw [flat, subs, ← List.append_assoc, ← List.append_assoc]
    refine h1.snoc ?_ hw0
    have hfl := flat_len (c 0) A.length
    have hp := tsz_pos (c 0)
    have hlen : (A ++ flat (c 0) A.length).length = A.length + tsz (c 0) := by rw [List.length_append, hfl]
    have hla := subs_last (c 0) SA
    rw [hlen]
    refine ⟨A.length + tsz (c 0) - 1, by omega, ?_, ?_⟩
    · rw [h.len]; exact app_some hla
    · rw [show ((A.length + tsz (c 0) - 1 : Nat) : Int) = (A.length : Int) + tsz (c 0) - 1 by omega]
  · have hw0 := hw
    obtain ⟨rfl, hv, hx, hk, hw1, hw2⟩ := hw
    have h1 := ih1 hw1 A SA h
    have hfl := flat_len (c 0) A.length
    have hlen : (A ++ flat (c 0) A.length).length = A.length + tsz (c 0) := by rw [List.length_append, hfl]
    have h2 := ih2 hw2 _ _ h1
    rw [hlen] at h2
    have hfl2 := flat_len (c 1) (A.length + tsz (c 0))
    have hlen2 : (A ++ flat (c 0) A.length ++ flat (c 1) (A.length + tsz (c 0))).length = A.length + tsz (c 0) + tsz (c 1) := by rw [List.length_append, hlen, hfl2]
    rw [flat, subs, ← List.append_assoc, ← List.append_assoc, ← List.append_assoc, ← List.append_assoc]
    refine h2.snoc ?_ hw0
    have hp := tsz_pos (c 0)
    have hp2 := tsz_pos (c 1)
    have hla := subs_last (c 0) SA
    have hlb := subs_last (c 1) (SA ++ subs (c 0))
    rw [List.length_append, subs_len] at hlb
    rw [hlen2]
    refine ⟨A.length + tsz (c 0) - 1, A.length + tsz (c 0) + tsz (c 1) - 1, by omega, by omega, ?_, ?_, ?_⟩
    · rw [h.len]; exact app_some (app_some hla)
    · rw [h.len]; exact app_some hlb
    · rw [show ((A.length + tsz (c 0) - 1 : Nat) : Int) = (A.length : Int) + tsz (c 0) - 1 by omega, show ((A.length + tsz (c 0) + tsz (c 1) - 1 : Nat) : Int) = (A.length : Int) + tsz (c 0) + tsz (c 1) - 1 by omega]
theorem sb_tree {t : Tre} (h : Wt t) : Sb (flat t 0) (subs t) := by
  have := sb_flat t h [] [] Sb.nil
  simpa using this
theorem subs_root (t : Tre) : (subs t)[tsz t - 1]? = some t := by
  have := subs_last t []
  simpa using this
/-- the cases of a node, by kind -/
theorem sok_cases {S : List Tre} {i : Nat} {nd : Nd} {s : Tre} (h : sok S i nd s) (hw : Wt s) :
    (∃ v, s = lf 1 v 0 ∧ nd = (1, v, 0, -1, -1)) ∨ (∃ x, s = lf 2 0 x ∧ nd = (2, 0, x, -1, -1) ∧ 0 ≤ x ∧ x ≤ 25) ∨
    (∃ a, ∃ j : Nat, s = u1 3 0 a ∧ nd = (3, 0, 0, (j : Int), -1) ∧ j < i ∧ S[j]? = some a ∧ Wt a) ∨
    (∃ v a, ∃ j : Nat, s = u1 7 v a ∧ nd = (7, v, 0, (j : Int), -1) ∧ j < i ∧ S[j]? = some a ∧ Wt a ∧ 0 ≤ v ∧ v ≤ 1000000) ∨
    (∃ k a b, ∃ j j2 : Nat, s = b2 k a b ∧ nd = (k, 0, 0, (j : Int), (j2 : Int)) ∧ (k = 4 ∨ k = 5 ∨ k = 6) ∧ j < i ∧ j2 < i ∧ S[j]? = some a ∧ S[j2]? = some b ∧ Wt a ∧ Wt b) := by
  match s, h, hw with
  | ⟨k, v, x, 0, c⟩, h, hw =>
    have hc : (⟨k, v, x, 0, c⟩ : Tre) = lf k v x := by unfold lf; congr; funext q; exact q.elim0
    rw [hc]
    rcases hw with ⟨rfl, rfl⟩ | ⟨rfl, rfl, h3, h4⟩
    · exact .inl ⟨v, rfl, h⟩
    · exact .inr (.inl ⟨x, rfl, h, h3, h4⟩)
  | ⟨k, v, x, 1, c⟩, ⟨j, h1, h2, h3⟩, ⟨hx, hk, hw1⟩ =>
    have hc : (⟨k, v, x, 1, c⟩ : Tre) = ⟨k, v, x, 1, fun _ => c 0⟩ := by congr; funext q; congr 1; exact Subsingleton.elim _ _
    subst hx
    rcases hk with ⟨rfl, rfl⟩ | ⟨rfl, hv⟩
    · exact .inr (.inr (.inl ⟨c 0, j, hc, h3, h1, h2, hw1⟩))
    · exact .inr (.inr (.inr (.inl ⟨v, c 0, j, hc, h3, h1, h2, hw1, hv.1, hv.2⟩)))
  | ⟨k, v, x, n + 2, c⟩, ⟨j, j2, h1, h2, h3, h4, h5⟩, ⟨hn, hv, hx, hk, hw1, hw2⟩ =>
    subst hn hv hx
    have hc : (⟨k, 0, 0, 2, c⟩ : Tre) = b2 k (c 0) (c 1) := by
      unfold b2
      congr
      funext q
      match q with
      | ⟨0, _⟩ => rfl
      | ⟨1, _⟩ => rfl
    exact .inr (.inr (.inr (.inr ⟨k, c 0, c 1, j, j2, hc, h5, hk, h1, h2, h3, h4, hw1, hw2⟩)))
/-- a tree in a pool -/
def Pt (pool : List Nd) : Tre → Int → Prop
  | ⟨k, v, x, 0, _⟩, i => ∃ (j : Nat) (l r : Int), i = j ∧ pool[j]? = some (k, v, x, l, r)
  | ⟨k, v, x, 1, c⟩, i => ∃ (j : Nat) (l r : Int), i = j ∧ pool[j]? = some (k, v, x, l, r) ∧ Pt pool (c 0) l
  | ⟨k, v, x, _ + 2, c⟩, i => ∃ (j : Nat) (l r : Int), i = j ∧ pool[j]? = some (k, v, x, l, r) ∧ Pt pool (c 0) l ∧ Pt pool (c 1) r
theorem Pt.app {pool ex : List Nd} : ∀ (t : Tre) (i : Int), Pt pool t i → Pt (pool ++ ex) t i := by
  refine Tre.ind (fun k v x c i h => ?_) (fun k v x c ih i h => ?_) (fun k v x n c ih1 ih2 i h => ?_)
  · obtain ⟨j, l, r, h1, h2⟩ := h; exact ⟨j, l, r, h1, app_some h2⟩
  · obtain ⟨j, l, r, h1, h2, h3⟩ := h; exact ⟨j, l, r, h1, app_some h2, ih _ h3⟩
  · obtain ⟨j, l, r, h1, h2, h3, h4⟩ := h; exact ⟨j, l, r, h1, app_some h2, ih1 _ h3, ih2 _ h4⟩
theorem Pt.node {pool : List Nd} : ∀ {t : Tre} {i : Int}, Pt pool t i → ∃ (j : Nat) (l r : Int), i = j ∧ pool[j]? = some (t.k, t.v, t.x, l, r) ∧ (1 ≤ t.n → Pt pool (kid0 t) l) := by
  intro t i h
  match t, h with
  | ⟨k, v, x, 0, c⟩, ⟨j, l, r, h1, h2⟩ => exact ⟨j, l, r, h1, h2, fun h => by simp at h⟩
  | ⟨k, v, x, 1, c⟩, ⟨j, l, r, h1, h2, h3⟩ => exact ⟨j, l, r, h1, h2, fun _ => h3⟩
  | ⟨k, v, x, n + 2, c⟩, ⟨j, l, r, h1, h2, h3, h4⟩ => exact ⟨j, l, r, h1, h2, fun _ => h3⟩
theorem Pt.leaf (pool : List Nd) (k v x l r : Int) : Pt (pool ++ [(k, v, x, l, r)]) (lf k v x) pool.length := ⟨pool.length, l, r, rfl, last_get _ _⟩
theorem Pt.un {pool : List Nd} {a : Tre} {l : Int} (k v r : Int) (h : Pt pool a l) : Pt (pool ++ [(k, v, 0, l, r)]) (u1 k v a) pool.length := ⟨pool.length, l, r, rfl, last_get _ _, h.app _ _⟩
theorem Pt.bin {pool : List Nd} {a b : Tre} {l r : Int} (k : Int) (h : Pt pool a l) (h2 : Pt pool b r) : Pt (pool ++ [(k, 0, 0, l, r)]) (b2 k a b) pool.length := ⟨pool.length, l, r, rfl, last_get _ _, h.app _ _, h2.app _ _⟩
/-- preorder, the right child first -/
def prR : Tre → List Nd
  | ⟨k, v, x, 0, _⟩ => [(k, v, x, 0, 0)]
  | ⟨k, v, x, 1, c⟩ => (k, v, x, 0, 0) :: prR (c 0)
  | ⟨k, v, x, _ + 2, c⟩ => (k, v, x, 0, 0) :: (prR (c 1) ++ prR (c 0))
def zN (nd : Nd) : Nd := (nd.1, nd.2.1, nd.2.2.1, 0, 0)
theorem prR_rev : ∀ (t : Tre) (b : Nat), (prR t).reverse = (flat t b).map zN := by
  refine Tre.ind (fun k v x c b => rfl) (fun k v x c ih b => ?_) (fun k v x n c ih1 ih2 b => ?_)
  · rw [prR, flat, List.reverse_cons, ih b, List.map_append]; rfl
  · rw [prR, flat, List.reverse_cons, List.reverse_append, ih1 b, ih2 (b + tsz (c 0)), List.map_append, List.map_append]; rfl
theorem prR_len (t : Tre) : (prR t).length = tsz t := by
  rw [← List.length_reverse, prR_rev t 0, List.length_map, flat_len]
/-- what the stack still has to give -/
def prS (L : List Tre) : List Nd := L.reverse.flatMap prR
theorem prS_snoc (L : List Tre) (t : Tre) : prS (L ++ [t]) = prR t ++ prS L := by simp [prS]
theorem prS_nil : prS [] = [] := rfl
theorem fmR_ge : ∀ L : List Tre, L.length ≤ (L.flatMap prR).length
  | [] => Nat.zero_le _
  | t :: L => by
    have := fmR_ge L
    have h2 : 1 ≤ (prR t).length := by rw [prR_len]; exact tsz_pos t
    rw [List.flatMap_cons, List.length_append, List.length_cons]; omega
theorem prS_ge (L : List Tre) : L.length ≤ (prS L).length := by
  have := fmR_ge L.reverse
  rw [List.length_reverse] at this
  exact this
theorem prR_pos (t : Tre) : 1 ≤ (prR t).length := by rw [prR_len]; exact tsz_pos t
/-- the trees of the stack -/
def Stk (pool : List Nd) : List Tre → List Int → Prop
  | [], [] => True
  | t :: L, i :: I => Pt pool t i ∧ Stk pool L I
  | _, _ => False
theorem Stk.len {pool : List Nd} : ∀ {L : List Tre} {I : List Int}, Stk pool L I → L.length = I.length
  | [], [], _ => rfl
  | t :: L, i :: I, h => by simp [Stk.len h.2]
  | [], _ :: _, h => h.elim
  | _ :: _, [], h => h.elim
theorem Stk.snoc {pool : List Nd} {t : Tre} {i : Int} (ht : Pt pool t i) : ∀ {L : List Tre} {I : List Int}, Stk pool L I → Stk pool (L ++ [t]) (I ++ [i])
  | [], [], _ => ⟨ht, trivial⟩
  | s :: L, j :: I, h => ⟨h.1, Stk.snoc ht h.2⟩
  | [], _ :: _, h => h.elim
  | _ :: _, [], h => h.elim
theorem Stk.pop {pool : List Nd} : ∀ {L : List Tre} {I : List Int}, Stk pool L I → I ≠ [] → ∃ L' I' t i, L = L' ++ [t] ∧ I = I' ++ [i] ∧ Stk pool L' I' ∧ Pt pool t i
  | [], [], _, h => absurd rfl h
  | [t], [i], h, _ => ⟨[], [], t, i, rfl, rfl, trivial, h.1⟩
  | s :: t :: L, j :: i :: I, h, _ => by
    obtain ⟨L', I', t', i', h1, h2, h3, h4⟩ := Stk.pop h.2 (by simp)
    exact ⟨s :: L', j :: I', t', i', by rw [h1]; rfl, by rw [h2]; rfl, ⟨h.1, h3⟩, h4⟩
  | [], _ :: _, h, _ => h.elim
  | _ :: _, [], h, _ => h.elim
  | [_], _ :: _ :: _, h, _ => h.2.elim
  | _ :: _ :: _, [_], h, _ => h.2.elim
section
variable {S : List Tre} {i : Nat} {k v x l r : Int} {s : Tre}
theorem sok1 (h : sok S i (k, v, x, l, r) s) (hw : Wt s) (hk : k = 1) : s = lf 1 v 0 ∧ x = 0 := by
  rcases sok_cases h hw with ⟨v', h1, h2⟩ | ⟨x', h1, h2, h3⟩ | ⟨a, j, h1, h2, h3⟩ | ⟨v', a, j, h1, h2, h3⟩ | ⟨k', a, b, j, j2, h1, h2, h3, h4⟩ <;> simp only [Prod.mk.injEq] at h2
  · obtain ⟨-, rfl, rfl, -⟩ := h2; exact ⟨h1, rfl⟩
  all_goals omega
theorem sok2 (h : sok S i (k, v, x, l, r) s) (hw : Wt s) (hk : k = 2) : s = lf 2 0 x ∧ v = 0 ∧ 0 ≤ x ∧ x ≤ 25 := by
  rcases sok_cases h hw with ⟨v', h1, h2⟩ | ⟨x', h1, h2, h3⟩ | ⟨a, j, h1, h2, h3⟩ | ⟨v', a, j, h1, h2, h3⟩ | ⟨k', a, b, j, j2, h1, h2, h3, h4⟩ <;> simp only [Prod.mk.injEq] at h2
  · omega
  · obtain ⟨-, rfl, rfl, -⟩ := h2; exact ⟨h1, rfl, h3⟩
  all_goals omega
theorem sok3 (h : sok S i (k, v, x, l, r) s) (hw : Wt s) (hk : k = 3) : ∃ a, ∃ j : Nat, s = u1 3 0 a ∧ l = (j : Int) ∧ j < i ∧ S[j]? = some a ∧ Wt a := by
  rcases sok_cases h hw with ⟨v', h1, h2⟩ | ⟨x', h1, h2, h3⟩ | ⟨a, j, h1, h2, h3⟩ | ⟨v', a, j, h1, h2, h3⟩ | ⟨k', a, b, j, j2, h1, h2, h3, h4⟩ <;> simp only [Prod.mk.injEq] at h2
  · omega
  · omega
  · exact ⟨a, j, h1, h2.2.2.2.1, h3⟩
  all_goals omega
theorem sok7 (h : sok S i (k, v, x, l, r) s) (hw : Wt s) (hk : k = 7) : ∃ a, ∃ j : Nat, s = u1 7 v a ∧ l = (j : Int) ∧ j < i ∧ S[j]? = some a ∧ Wt a ∧ 0 ≤ v ∧ v ≤ 1000000 := by
  rcases sok_cases h hw with ⟨v', h1, h2⟩ | ⟨x', h1, h2, h3⟩ | ⟨a, j, h1, h2, h3⟩ | ⟨v', a, j, h1, h2, h3⟩ | ⟨k', a, b, j, j2, h1, h2, h3, h4⟩ <;> simp only [Prod.mk.injEq] at h2
  · omega
  · omega
  · omega
  · obtain ⟨-, rfl, -, rfl, -⟩ := h2; exact ⟨a, j, h1, rfl, h3⟩
  all_goals omega
theorem sokb (h : sok S i (k, v, x, l, r) s) (hw : Wt s) (hk : k = 4 ∨ k = 5 ∨ k = 6) : ∃ a b, ∃ j j2 : Nat, s = b2 k a b ∧ l = (j : Int) ∧ r = (j2 : Int) ∧ j < i ∧ j2 < i ∧ S[j]? = some a ∧ S[j2]? = some b ∧ Wt a ∧ Wt b := by
  rcases sok_cases h hw with ⟨v', h1, h2⟩ | ⟨x', h1, h2, h3⟩ | ⟨a, j, h1, h2, h3⟩ | ⟨v', a, j, h1, h2, h3⟩ | ⟨k', a, b, j, j2, h1, h2, h3, h4⟩ <;> simp only [Prod.mk.injEq] at h2
  · omega
  · omega
  · omega
  · omega
  · obtain ⟨rfl, -, -, rfl, rfl⟩ := h2; exact ⟨a, b, j, j2, h1, rfl, rfl, h4⟩
theorem sok_kind (h : sok S i (k, v, x, l, r) s) (hw : Wt s) : k = 1 ∨ k = 2 ∨ k = 3 ∨ k = 4 ∨ k = 5 ∨ k = 6 ∨ k = 7 := by
  rcases sok_cases h hw with ⟨v', h1, h2⟩ | ⟨x', h1, h2, h3⟩ | ⟨a, j, h1, h2, h3⟩ | ⟨v', a, j, h1, h2, h3⟩ | ⟨k', a, b, j, j2, h1, h2, h3, h4⟩ <;> simp only [Prod.mk.injEq] at h2 <;> omega
end
theorem cn_lf (k v x : Int) : cn (lf k v x) = lf k v x := rfl
theorem cn_neg (v : Int) (a : Tre) : cn (u1 3 v a) = negR (cn a) := rfl
theorem cn_pow (v : Int) (a : Tre) : cn (u1 7 v a) = powR (cn a) v := rfl
theorem cn_b4 (a b : Tre) : cn (b2 4 a b) = addR (cn a) (cn b) := rfl
theorem cn_b5 (a b : Tre) : cn (b2 5 a b) = subR (cn a) (cn b) := rfl
theorem cn_b6 (a b : Tre) : cn (b2 6 a b) = mulR (cn a) (cn b) := rfl
/-- the cases of a tree on the stack -/
theorem Pt.cases {pool : List Nd} {t : Tre} {i : Int} (h : Pt pool t i) (hw : Wt t) : ∃ (j : Nat) (k v x l r : Int), i = j ∧ pool[j]? = some (k, v, x, l, r) ∧
    (((k = 1 ∨ k = 2) ∧ prR t = [(k, v, x, 0, 0)]) ∨ ((k = 3 ∨ k = 7) ∧ ∃ a, prR t = (k, v, x, 0, 0) :: prR a ∧ Pt pool a l ∧ Wt a) ∨
     ((k = 4 ∨ k = 5 ∨ k = 6) ∧ ∃ a b, prR t = (k, v, x, 0, 0) :: (prR b ++ prR a) ∧ Pt pool a l ∧ Pt pool b r ∧ Wt a ∧ Wt b)) := by
  match t, h, hw with
  | ⟨k, v, x, 0, c⟩, ⟨j, l, r, h1, h2⟩, hw => exact ⟨j, k, v, x, l, r, h1, h2, .inl ⟨or_map hw (fun e => e.1) (fun e => e.1), rfl⟩⟩
  | ⟨k, v, x, 1, c⟩, ⟨j, l, r, h1, h2, h3⟩, ⟨hx, hk, hw1⟩ => exact ⟨j, k, v, x, l, r, h1, h2, .inr (.inl ⟨or_map hk (fun e => e.1) (fun e => e.1), c 0, rfl, h3, hw1⟩)⟩
  | ⟨k, v, x, n + 2, c⟩, ⟨j, l, r, h1, h2, h3, h4⟩, ⟨hn, hv, hx, hk, hw1, hw2⟩ => exact ⟨j, k, v, x, l, r, h1, h2, .inr (.inr ⟨hk, c 0, c 1, rfl, h3, h4, hw1, hw2⟩)⟩
theorem own_apart {w w' : World} {B1 B2 e1 e2 s1 s2 n1 n2 : Nat} {v1 v2 : Value} {x1 x2 : List Value} (h1 : w.ownsRow B1 e1 s1 v1 n1 x1) (h2 : w.ownsRow B2 e2 s2 v2 n2 x2) (hne : Nat.beq e1 e2 = false) (hg : w.grownBy w' v2.ownBlock) : w'.ownsRow B1 e1 s1 v1 n1 x1 := by
  refine own_same h1 fun k hk => hg.block k (own_block_lt h1 hk).2 fun e => ?_
  rcases own_slc h1 with ⟨rfl, _⟩ | ⟨g, cap, sp, _, hs⟩
  · cases hk
  rcases own_slc h2 with ⟨rfl, _⟩ | ⟨g2, cap2, sp2, _, hs2⟩
  · cases e
  rw [hs.val] at hk
  rw [hs2.val] at e
  simp only [Value.ownBlock, Option.some.injEq] at hk e
  subst hk
  have h3 := hs.bl.at_
  have h4 := hs2.bl.at_
  rw [← e, h3] at h4
  simp only [Option.some.injEq, Obj.cells.injEq] at h4
  have := h4.2.1
  subst this
  rw [Nat.beq_refl] at hne
  cases hne
theorem own_shrink {w : World} {B e sz n m g cap : Nat} {xs ys : List Value} (h : w.ownsRow B e sz (.slice (some ⟨g, 0, none⟩) n cap) n xs) (hm : m ≤ n) (hy : xs = ys ++ xs.drop (m * sz)) (hl : ys.length = m * sz) : w.ownsRow B e sz (.slice (some ⟨g, 0, none⟩) m cap) m ys := by
  rcases own_slc h with ⟨hv, _⟩ | ⟨g', cap', sp, hB, hs⟩
  · cases hv
  · have hv := hs.val
    simp only [Value.slice.injEq, Option.some.injEq, Addr.mk.injEq] at hv
    obtain ⟨⟨rfl, -, -⟩, -, rfl⟩ := hv
    have hsz := hs.size
    have hcn := hs.capn
    refine Slc.own (g := g) (cap := cap) (sp := xs.drop (m * sz) ++ sp) ⟨rfl, ?_, hl, by omega, hs.capm, ?_⟩ hB
    · have := hs.bl
      rw [hy, List.append_assoc] at this
      exact this
    · rw [← hsz]
      conv => rhs; rw [hy]
      simp
theorem iC_cut (I : List Int) (i : Int) : iC .i64 (I ++ [i]) = iC .i64 I ++ (iC .i64 (I ++ [i])).drop (I.length * 1) := by
  rw [Nat.mul_one]
  have h : iC .i64 (I ++ [i]) = iC .i64 I ++ [Value.int .i64 i] := by simp [iC]
  have hl : (iC .i64 I).length = I.length := by simp [iC]
  rw [h, List.drop_append_of_le_length (by omega), List.drop_eq_nil_of_le (by omega), List.nil_append]
end Go.Mw
