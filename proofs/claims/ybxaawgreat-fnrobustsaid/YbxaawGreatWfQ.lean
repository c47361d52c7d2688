/-
  What it takes to be well formed, plain.
-/
import Derived.Test.YbxaawGreatWfW2
import Derived.Test.YbxaawGreatSimpP
set_option linter.unusedVariables false
set_option linter.unusedSimpArgs false
namespace Go.Mw
/-- well formed, as both programs decide -/
def WF (ns : List Nd) (root : Int) : Prop := ∃ t : Tre, Wt t ∧ ns = flat t 0 ∧ root = (tsz t : Int) - 1 ∧ tsz t ≤ 500000
theorem at_app {ns : List Nd} {X Y : List Nd} {b : Nat} (h : ∀ j nd, X[j]? = some nd → ns[b + j]? = some nd) (k : ∀ j nd, Y[j]? = some nd → ns[b + X.length + j]? = some nd) : ∀ j nd, (X ++ Y)[j]? = some nd → ns[b + j]? = some nd := fun j nd hj => by
  rcases Nat.lt_or_ge j X.length with hl | hl
  · rw [List.getElem?_append_left hl] at hj; exact h j nd hj
  · rw [List.getElem?_append_right hl] at hj
    have := k (j - X.length) nd hj
    rwa [show b + X.length + (j - X.length) = b + j by omega] at this
theorem at_one {ns : List Nd} {nd : Nd} {i : Nat} (h : ns[i]? = some nd) : ∀ j x, [nd][j]? = some x → ns[i + j]? = some x := fun j x hj => by
  cases j with
  | zero => simp at hj; subst hj; exact h
  | succ j => simp at hj
theorem gd_build {ns : List Nd} {S : List Int} (h : Gd ns S) : ∀ i, i < ns.length → ∃ (t : Tre) (b : Nat), Wt t ∧ At ns t b ∧ b + tsz t = i + 1 ∧ S[i]? = some (tsz t : Int) := by
  intro i
  induction i using Nat.strongRecOn with
  | _ i ih =>
  intro hi
  obtain ⟨⟨k, v, x, l, r⟩, hnd⟩ : ∃ nd, ns[i]? = some nd := ⟨_, List.getElem?_eq_getElem hi⟩
  have hok := h.ok i _ hnd
  rcases hok with ⟨h1, h2, h3, h4, h5⟩ | ⟨h1, h2, h3, h4, h5, h6, h7⟩ | ⟨a, h0, h1, h2, h3, h4, h5, h6⟩ | ⟨a, b, j, h0, h1, h2, h3, h4, h5, h6, h7, h8, h9, h10⟩
  · simp only [] at h1 h2 h3 h4
    subst h1 h2 h3 h4
    exact ⟨lf 1 v 0, i, wt_num v, at_one hnd, rfl, h5⟩
  · simp only [] at h1 h2 h3 h4 h5 h6
    subst h1 h2 h5 h6
    exact ⟨lf 2 0 x, i, wt_var ⟨h3, h4⟩, at_one hnd, rfl, h7⟩
  · simp only [] at h2 h3 h4 h5
    obtain ⟨t1, b1, hw1, hat1, hb1, hs1⟩ := ih (i - 1) (by omega) (by omega)
    rw [hs1] at h1
    simp only [Option.some.injEq] at h1
    subst h2 h5
    have hfl := flat_len t1 b1
    refine ⟨u1 k v t1, b1, ⟨rfl, h3, hw1⟩, ?_, by rw [tsz_u1]; omega, by rw [h6, tsz_u1]; congr 1; omega⟩
    unfold At
    rw [flat_u1]
    refine at_app hat1 ?_
    rw [hfl, show b1 + tsz t1 = i by omega, show (b1 : Int) + tsz t1 - 1 = l by omega]
    exact at_one hnd
  · simp only [] at h5 h6 h7 h8 h9
    obtain ⟨t2, c2, hw2, hat2, hc2, hs2⟩ := ih (i - 1) (by omega) (by omega)
    rw [hs2] at h1
    simp only [Option.some.injEq] at h1
    obtain ⟨t1, c1, hw1, hat1, hc1, hs1⟩ := ih j h4 (by omega)
    rw [hs1] at h3
    simp only [Option.some.injEq] at h3
    subst h5 h6
    have hfl := flat_len t1 c1
    have hfl2 := flat_len t2 (c1 + tsz t1)
    refine ⟨b2 k t1 t2, c1, ⟨rfl, rfl, rfl, h7, hw1, hw2⟩, ?_, by rw [tsz_b2]; omega, by rw [h10, tsz_b2]; congr 1; omega⟩
    unfold At
    rw [flat_b2]
    refine at_app (at_app hat1 ?_) ?_
    · rw [hfl, show c1 + tsz t1 = c2 by omega]; exact hat2
    · rw [List.length_append, hfl, hfl2, show c1 + (tsz t1 + tsz t2) = i by omega, show (c1 : Int) + tsz t1 - 1 = l by omega, show (c1 : Int) + tsz t1 + tsz t2 - 1 = r by omega]
      exact at_one hnd
theorem gd_bound {ns : List Nd} {S : List Int} (h : Gd ns S) {i : Nat} {a : Int} (ha : S[i]? = some a) : 1 ≤ a ∧ a ≤ (i : Int) + 1 := by
  have hi := (List.getElem?_eq_some_iff.1 ha).1
  obtain ⟨t, b, hw, hat, hb, hs⟩ := gd_build h i (by rw [h.len]; exact hi)
  rw [hs] at ha
  simp only [Option.some.injEq] at ha
  have := tsz_pos t
  omega
theorem at_whole {ns : List Nd} {t : Tre} (h : At ns t 0) (hl : tsz t = ns.length) : ns = flat t 0 := by
  apply List.ext_getElem?
  intro i
  rcases Nat.lt_or_ge i ns.length with hi | hi
  · have hf := flat_len t 0
    obtain ⟨nd, hnd⟩ : ∃ nd, (flat t 0)[i]? = some nd := ⟨_, List.getElem?_eq_getElem (by omega)⟩
    have := h i nd hnd
    rw [Nat.zero_add] at this
    rw [this, hnd]
  · rw [List.getElem?_eq_none hi, List.getElem?_eq_none (by rw [flat_len]; omega)]
theorem wf_of_at {ns : List Nd} {root : Int} {t : Tre} {b : Nat} (hw : Wt t) (hat : At ns t b) (hb : b + tsz t = ns.length) (hz : tsz t = ns.length) (hr : root = (ns.length : Int) - 1) (hn : ns.length ≤ 500000) : WF ns root := by
  obtain rfl : b = 0 := by omega
  exact ⟨t, hw, at_whole hat hz, by omega, by omega⟩
theorem Gd.next {ns : List Nd} {G : List Int} {i : Nat} {nd : Nd} {s : Int} (hnd : ns[i]? = some nd) (hG : G.length = ns.length) (h : Gd (ns.take i) (G.take i)) (hok : okN (G.take i ++ [s]) i nd) : Gd (ns.take (i + 1)) ((G.set i s).take (i + 1)) := by
  have hi := (List.getElem?_eq_some_iff.1 hnd).1
  have e1 : ns.take (i + 1) = ns.take i ++ [nd] := by
    rw [List.take_succ_eq_append_getElem hi, (List.getElem?_eq_some_iff.1 hnd).2]
  have e2 : (G.set i s).take (i + 1) = G.take i ++ [s] := by
    rw [List.take_succ_eq_append_getElem (by rw [List.length_set]; omega), List.getElem_set_self, List.take_set_of_le (Nat.le_refl _)]
  rw [e1, e2]
  refine h.snoc ?_
  rw [List.length_take, Nat.min_eq_left (by omega)]
  exact hok
section
variable {T : List Int} {i : Nat} {k v x l r : Int}
theorem okN_one (hT : T.length = i) (h : (k = 1 ∧ x = 0) ∨ (k = 2 ∧ v = 0 ∧ 0 ≤ x ∧ x ≤ 25)) (hl : l = -1) (hr : r = -1) : okN (T ++ [1]) i (k, v, x, l, r) := by
  have hlg : (T ++ [1])[i]? = some (1 : Int) := by rw [← hT]; exact last_get _ _
  rcases h with h | h
  · exact .inl ⟨h.1, h.2, hl, hr, hlg⟩
  · exact .inr (.inl ⟨h.1, h.2.1, h.2.2.1, h.2.2.2, hl, hr, hlg⟩)
theorem okN_un {a : Int} (hT : T.length = i) (hi : 1 ≤ i) (ha : T[i - 1]? = some a) (hx : x = 0) (h : (k = 3 ∧ v = 0) ∨ (k = 7 ∧ 0 ≤ v ∧ v ≤ 1000000)) (hl : l = (i : Int) - 1) (hr : r = -1) : okN (T ++ [1 + a]) i (k, v, x, l, r) :=
  .inr (.inr (.inl ⟨a, hi, app_some ha, hx, h, hl, hr, by rw [← hT]; exact last_get _ _⟩))
theorem okN_bin {a b : Int} {j : Nat} (hT : T.length = i) (hi : 1 ≤ i) (ha : T[i - 1]? = some a) (hj : (j : Int) = (i : Int) - 1 - a) (hb : T[j]? = some b) (hji : j < i) (hv : v = 0) (hx : x = 0) (hk : k = 4 ∨ k = 5 ∨ k = 6) (hl : l = (j : Int)) (hr : r = (i : Int) - 1) : okN (T ++ [1 + a + b]) i (k, v, x, l, r) :=
  .inr (.inr (.inr ⟨a, b, j, hi, app_some ha, hj, app_some hb, hji, hv, hx, hk, hl, hr, by rw [← hT]; exact last_get _ _⟩))
end
theorem take_nth {G : List Int} {i j : Nat} {a : Int} (h : G[j]? = some a) (hj : j < i) : (G.take i)[j]? = some a := by rw [List.getElem?_take_of_lt hj]; exact h
/-- numbers in the nodes stay in range -/
theorem flat_wi : ∀ (t : Tre) (b : Nat), (∀ nd ∈ flat t b, w64 nd.2.1 = nd.2.1) → Wi t := by
  refine Tre.ind (fun k v x c b h => ?_) (fun k v x c ih b h => ?_) (fun k v x n c ih1 ih2 b h => ?_)
  · exact h (k, v, x, -1, -1) (by rw [flat]; simp)
  · exact ih b fun nd hn => h nd (by rw [flat]; exact List.mem_append_left _ hn)
  · exact ⟨ih1 b fun nd hn => h nd (by rw [flat]; exact List.mem_append_left _ (List.mem_append_left _ hn)), ih2 (b + tsz (c 0)) fun nd hn => h nd (by rw [flat]; exact List.mem_append_left _ (List.mem_append_right _ hn))⟩
end Go.Mw
