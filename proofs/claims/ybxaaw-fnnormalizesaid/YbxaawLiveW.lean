/-
  Facts that live through a law: carried over a call that keeps all, and over one that writes in a range.
-/
import Derived.Test.YbxaawStampW
import Derived.Test.YbxaawLawB
set_option linter.unusedVariables false
namespace Go.Mw
theorem Sm.flip {q : List PT} (h : Sm q) : Sm (flipP q) := ⟨by rw [flipP_length]; exact h.len, fun t ht => by
  simp only [flipP, List.mem_map] at ht
  obtain ⟨u, hu, rfl⟩ := ht
  simpa using h.sub u hu⟩
theorem S4.sm {Ls : List Lt} (h : S4 Ls) : Sm (pol Ls) := ⟨by rw [pol_length]; have := h.len; omega, fun t ht => by
  simp only [pol, List.mem_map] at ht
  obtain ⟨u, hu, rfl⟩ := ht
  have := h.sub u hu
  simp only []; omega⟩
theorem S4.of_pol {Ls Ms : List Lt} (h : S4 Ls) (e : pol Ms = pol Ls) : S4 Ms := by
  have hl := congrArg List.length e
  rw [pol_length, pol_length] at hl
  refine ⟨by rw [hl]; exact h.len, fun t ht => ?_⟩
  obtain ⟨i, hi⟩ := List.getElem?_of_mem ht
  have h1 := pol_get hi
  rw [e] at h1
  have : (t.1, t.2.2) ∈ pol Ls := List.mem_of_getElem? h1
  simp only [pol, List.mem_map] at this
  obtain ⟨u, hu, he⟩ := this
  have := h.sub u hu
  simp only [Prod.mk.injEq] at he
  rw [← he.2]; exact this
theorem S4.flip {Ls : List Lt} (h : S4 Ls) : S4 (Ls.map flipL) := ⟨by rw [List.length_map]; exact h.len, fun t ht => by
  rw [List.mem_map] at ht
  obtain ⟨u, hu, rfl⟩ := ht
  simpa [flipL] using h.sub u hu⟩
end Go.Mw
