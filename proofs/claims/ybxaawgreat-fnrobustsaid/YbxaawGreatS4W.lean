/-
  Sizes of an answer.
-/
import Derived.Test.YbxaawGreatLiveW
import Derived.Test.YbxaawGreatStampW
import Derived.Test.YbxaawGreatNmP
set_option linter.unusedVariables false
set_option linter.unusedSimpArgs false
namespace Go.Mw
theorem s4_toP {Ms : List Lt} {R : List MT} (hR : ∀ t ∈ R, t.2.length = 26) (hl : R.length ≤ 4096) (he : pol Ms = toP R) : S4 Ms := by
  have h1 := congrArg List.length he
  rw [pol_length, toP_len] at h1
  refine ⟨by omega, fun t ht => ?_⟩
  have h2 : (t.1, t.2.2) ∈ pol Ms := List.mem_map.2 ⟨t, ht, rfl⟩
  rw [he] at h2
  simp only [toP, List.mem_map] at h2
  obtain ⟨u, hu, hue⟩ := h2
  simp only [Prod.mk.injEq] at hue
  have h3 := spF_len u.2 0
  rw [hR u hu] at h3
  rw [← hue.2]; omega
theorem s4_nil {Ms : List Lt} (h : pol Ms = []) : S4 Ms := by
  have h1 := congrArg List.length h
  rw [pol_length] at h1
  have h2 : Ms = [] := List.eq_nil_of_length_eq_zero h1
  subst h2
  exact ⟨by simp, fun t ht => (by cases ht)⟩
theorem nfOk_le {R : List MT} (h : nfOk R = true) : R.length ≤ 4096 := by
  unfold nfOk at h
  simp only [Bool.and_eq_true, decide_eq_true_eq] at h
  exact h.1
theorem norm_s4 {q : List PT} {Ms : List Lt} (h : pol Ms = (normP q).getD []) : S4 Ms := by
  unfold normP at h
  split at h
  · rename_i hi
    split at h
    · rename_i hn
      exact s4_toP (nf_vl (ms_vl hi)).len (nfOk_le hn) h
    · exact s4_nil h
  · exact s4_nil h
theorem cq_of {Ls : List Lt} (h : ∀ t ∈ Ls, -9223372036854775808 ≤ t.1 ∧ t.1 ≤ 9223372036854775807) : Cq (pol Ls) := fun t ht => by
  simp only [pol, List.mem_map] at ht
  obtain ⟨u, hu, rfl⟩ := ht
  rw [w64_eq]; have := h u hu; omega
end Go.Mw
