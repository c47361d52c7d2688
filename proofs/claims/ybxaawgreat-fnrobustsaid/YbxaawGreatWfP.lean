/-
  The nodes of a tree are well formed, plain.
-/
import Derived.Test.YbxaawGreatPrsP2
set_option linter.unusedVariables false
set_option linter.unusedSimpArgs false
namespace Go.Mw
/-- the sizes of the subtrees in postorder -/
def szs : Tre → List Int
  | ⟨_, _, _, 0, _⟩ => [1]
  | ⟨_, _, _, 1, c⟩ => szs (c 0) ++ [1 + (tsz (c 0) : Int)]
  | ⟨_, _, _, _ + 2, c⟩ => szs (c 0) ++ szs (c 1) ++ [1 + (tsz (c 1) : Int) + (tsz (c 0) : Int)]
theorem szs_len : ∀ t : Tre, (szs t).length = tsz t := Tre.ind (fun k v x c => rfl)
  (fun k v x c h => by rw [szs, tsz, List.length_append, h]; simp; omega)
  (fun k v x n c h1 h2 => by rw [szs, tsz, List.length_append, List.length_append, h1, h2]; simp; omega)
theorem szs_mem : ∀ (t : Tre) (s : Int), s ∈ szs t → 1 ≤ s ∧ s ≤ tsz t := by
  refine Tre.ind (fun k v x c s h => ?_) (fun k v x c ih s h => ?_) (fun k v x n c ih1 ih2 s h => ?_)
  · simp [szs] at h; subst h; rw [tsz]; omega
  · rw [szs] at h
    rw [tsz]
    rcases List.mem_append.1 h with h | h
    · have := ih s h; omega
    · simp at h; omega
  · rw [szs] at h
    rw [tsz]
    rcases List.mem_append.1 h with h | h
    · rcases List.mem_append.1 h with h | h
      · have := ih1 s h; omega
      · have := ih2 s h; omega
    · simp at h; omega
def okN (S : List Int) (i : Nat) (nd : Nd) : Prop :=
  (nd.1 = 1 ∧ nd.2.2.1 = 0 ∧ nd.2.2.2.1 = -1 ∧ nd.2.2.2.2 = -1 ∧ S[i]? = some 1) ∨
  (nd.1 = 2 ∧ nd.2.1 = 0 ∧ 0 ≤ nd.2.2.1 ∧ nd.2.2.1 ≤ 25 ∧ nd.2.2.2.1 = -1 ∧ nd.2.2.2.2 = -1 ∧ S[i]? = some 1) ∨
  (∃ a, 1 ≤ i ∧ S[i - 1]? = some a ∧ nd.2.2.1 = 0 ∧ ((nd.1 = 3 ∧ nd.2.1 = 0) ∨ (nd.1 = 7 ∧ 0 ≤ nd.2.1 ∧ nd.2.1 ≤ 1000000)) ∧ nd.2.2.2.1 = (i : Int) - 1 ∧ nd.2.2.2.2 = -1 ∧ S[i]? = some (1 + a)) ∨
  (∃ a b, ∃ j : Nat, 1 ≤ i ∧ S[i - 1]? = some a ∧ (j : Int) = (i : Int) - 1 - a ∧ S[j]? = some b ∧ j < i ∧ nd.2.1 = 0 ∧ nd.2.2.1 = 0 ∧ (nd.1 = 4 ∨ nd.1 = 5 ∨ nd.1 = 6) ∧ nd.2.2.2.1 = (j : Int) ∧ nd.2.2.2.2 = (i : Int) - 1 ∧ S[i]? = some (1 + a + b))
theorem app_some {α : Type} {S T : List α} {i : Nat} {x : α} (h : S[i]? = some x) : (S ++ T)[i]? = some x := by
  rw [List.getElem?_append_left (List.getElem?_eq_some_iff.1 h).1]; exact h
theorem okN.mono {S T : List Int} {i : Nat} {nd : Nd} (h : okN S i nd) : okN (S ++ T) i nd := by
  rcases h with ⟨h1, h2, h3, h4, h5⟩ | ⟨h1, h2, h3, h4, h5, h6, h7⟩ | ⟨a, h0, h1, h2, h3, h4, h5, h6⟩ | ⟨a, b, j, h0, h1, h2, h3, h4, h5, h6, h7, h8, h9, h10⟩
  · exact .inl ⟨h1, h2, h3, h4, app_some h5⟩
  · exact .inr (.inl ⟨h1, h2, h3, h4, h5, h6, app_some h7⟩)
  · exact .inr (.inr (.inl ⟨a, h0, app_some h1, h2, h3, h4, h5, app_some h6⟩))
  · exact .inr (.inr (.inr ⟨a, b, j, h0, app_some h1, h2, app_some h3, h4, h5, h6, h7, h8, h9, app_some h10⟩))
structure Gd (ns : List Nd) (S : List Int) : Prop where
  len : ns.length = S.length
  ok : ∀ i nd, ns[i]? = some nd → okN S i nd
theorem Gd.nil : Gd [] [] := ⟨rfl, fun i nd h => by simp at h⟩
theorem Gd.snoc {ns : List Nd} {S : List Int} {nd : Nd} {s : Int} (h : Gd ns S) (hn : okN (S ++ [s]) ns.length nd) : Gd (ns ++ [nd]) (S ++ [s]) := by
  refine ⟨by rw [List.length_append, List.length_append, h.len]; rfl, fun i x hx => ?_⟩
  rcases Nat.lt_trichotomy i ns.length with hi | hi | hi
  · rw [List.getElem?_append_left hi] at hx
    exact (h.ok i x hx).mono
  · subst hi
    rw [List.getElem?_append_right (Nat.le_refl _), Nat.sub_self] at hx
    simp at hx; subst hx
    exact hn
  · rw [List.getElem?_eq_none (by rw [List.length_append]; simp; omega)] at hx; cases hx
theorem last_get {α : Type} (S : List α) (s : α) : (S ++ [s])[S.length]? = some s := by
  rw [List.getElem?_append_right (Nat.le_refl _), Nat.sub_self]; rfl
theorem szs_last : ∀ (t : Tre) (SA : List Int), (SA ++ szs t)[SA.length + tsz t - 1]? = some (tsz t : Int) := by
  have key : ∀ (SA : List Int) (U : List Int) (s : Int) (n : Nat), n = U.length + 1 → (SA ++ (U ++ [s]))[SA.length + n - 1]? = some s := fun SA U s n hn => by
    rw [← List.append_assoc, show SA.length + n - 1 = (SA ++ U).length by rw [List.length_append]; omega]
    exact last_get _ _
  refine Tre.ind (fun k v x c SA => ?_) (fun k v x c ih SA => ?_) (fun k v x n c ih1 ih2 SA => ?_)
  · exact key SA [] 1 1 rfl
  · rw [szs, key SA (szs (c 0)) _ _ (by rw [tsz, szs_len]; omega), tsz]; first | rfl | (congr 1; omega)
  · rw [szs, key SA (szs (c 0) ++ szs (c 1)) _ _ (by rw [tsz, List.length_append, szs_len, szs_len]; omega), tsz]; first | rfl | (congr 1; omega)
theorem gd_flat : ∀ (t : Tre), Wt t → ∀ (A : List Nd) (SA : List Int), Gd A SA → Gd (A ++ flat t A.length) (SA ++ szs t) := by
  refine Tre.ind (fun k v x c hw A SA h => ?_) (fun k v x c ih hw A SA h => ?_) (fun k v x n c ih1 ih2 hw A SA h => ?_)
  · refine h.snoc ?_
    have hl : (SA ++ [1])[A.length]? = some (1 : Int) := by rw [h.len]; exact last_get _ _
    rcases hw with ⟨h1, h2⟩ | ⟨h1, h2, h3, h4⟩
    · exact .inl ⟨h1, h2, rfl, rfl, hl⟩
    · exact .inr (.inl ⟨h1, h2, h3, h4, rfl, rfl, hl⟩)
  · obtain ⟨hx, hk, hw1⟩ := hw
    have h1 := ih hw1 A SA h
    rw [flat, szs, ← List.append_assoc, ← List.append_assoc]
    refine h1.snoc ?_
    have hfl := flat_len (c 0) A.length
    have hp := tsz_pos (c 0)
    have hlen : (A ++ flat (c 0) A.length).length = A.length + tsz (c 0) := by rw [List.length_append, hfl]
    have hla := szs_last (c 0) SA
    rw [hlen]
    refine .inr (.inr (.inl ⟨(tsz (c 0) : Int), by omega, ?_, hx, hk, ?_, rfl, ?_⟩))
    · rw [h.len]; exact app_some hla
    · simp only []; omega
    · rw [← hlen, h1.len]; exact last_get _ _
  · obtain ⟨rfl, hv, hx, hk, hw1, hw2⟩ := hw
    have h1 := ih1 hw1 A SA h
    have hfl := flat_len (c 0) A.length
    have hlen : (A ++ flat (c 0) A.length).length = A.length + tsz (c 0) := by rw [List.length_append, hfl]
    have h2 := ih2 hw2 _ _ h1
    rw [hlen] at h2
    have hfl2 := flat_len (c 1) (A.length + tsz (c 0))
    have hlen2 : (A ++ flat (c 0) A.length ++ flat (c 1) (A.length + tsz (c 0))).length = A.length + tsz (c 0) + tsz (c 1) := by rw [List.length_append, hlen, hfl2]
    rw [flat, szs, ← List.append_assoc, ← List.append_assoc, ← List.append_assoc, ← List.append_assoc]
    refine h2.snoc ?_
    have hp := tsz_pos (c 0)
    have hp2 := tsz_pos (c 1)
    have hla := szs_last (c 0) SA
    have hlb := szs_last (c 1) (SA ++ szs (c 0))
    rw [List.length_append, szs_len] at hlb
    rw [hlen2]
    refine .inr (.inr (.inr ⟨(tsz (c 1) : Int), (tsz (c 0) : Int), A.length + tsz (c 0) - 1, by omega, ?_, by omega, ?_, by omega, hv, hx, hk, ?_, ?_, ?_⟩))
    · rw [h.len]; exact app_some hlb
    · rw [h.len]; exact app_some (app_some hla)
    · simp only []; omega
    · simp only []; omega
    · rw [← hlen2, h2.len]; exact last_get _ _
theorem gd_tree {t : Tre} (h : Wt t) : Gd (flat t 0) (szs t) := by
  have := gd_flat t h [] [] Gd.nil
  simpa using this
theorem get_of_take {G S : List Int} {i j : Nat} (h : G.take i = S.take i) (hj : j < i) : G[j]? = S[j]? := by
  have h1 : (G.take i)[j]? = (S.take i)[j]? := by rw [h]
  rwa [List.getElem?_take_of_lt hj, List.getElem?_take_of_lt hj] at h1
theorem flat_rep1 : ∀ (n : Nat) (x : Value), (List.replicate n [x]).flatten = List.replicate n x
  | 0, _ => rfl
  | n + 1, x => by rw [List.replicate_succ, List.flatten_cons, flat_rep1 n x, List.replicate_succ]; rfl
theorem iC_putI {k : IntKind} (G : List Int) (i : Nat) (x : Int) (h : i < G.length) : putAt (iC k G) i [.int k x] = iC k (G.set i x) := by
  rw [putAt_one _ _ _ (by simpa [iC] using h)]; simp [iC, List.map_set]
end Go.Mw
