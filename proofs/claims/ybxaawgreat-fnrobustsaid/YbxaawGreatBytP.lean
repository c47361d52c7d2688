/-
  A slice of bytes that comes in.
-/
import Derived.Test.YbxaawGreatRowP
import Derived.Test.YbxaawGreatDtokW
set_option linter.unusedVariables false
set_option linter.unusedSimpArgs false
namespace Go.Mw
open Go.RowKit Go.Deep
theorem u8_wf {n : Int} (h : (Lit.int .u8 n).wf = true) : 0 ≤ n ∧ n ≤ 255 := by
  have e1 : IntKind.u8.min = 0 := by decide
  have e2 : IntKind.u8.max = 255 := by decide
  simp only [Lit.wf, Bool.and_eq_true, decide_eq_true_eq, e1, e2] at h
  exact h
section
variable {H : Type} {enc : TypeId × Value → H} {P : Program} {W : World}
theorem bytes_of_trod {t e : TypeId} {fuel : Nat} {v : Value} {x : DataW H × List MemPlace} (ht : P.underlying t = some (.slice e)) (he : P.underlying e = some (.int .u8)) (hc : P.cellsOf e = 1) (hby : 1 ≤ P.bytesOf e)
    (h : DataW.trod enc P W 0 (fun _ => true) true fuel t [v] = some x) (hw : ∀ n ∈ x.1.weights P t, n ≤ reachBytes) :
    ∃ bs : List Nat, Rr W 0 W.heap.size 1 v bs.length (bC bs) ∧ bs.length ≤ reachBytes ∧ (∀ c ∈ bs, c < 256) ∧ Dat v bs := by
  rcases open_slice1 ht hc h with ⟨h1, _⟩ | ⟨a, len, cap, m, n, V, D, Pl, hcs, -, hl, hm, hmm, hx, hall⟩
  · simp only [List.cons.injEq, and_true] at h1
    subst h1
    exact ⟨[], Rr.nil _ _ _ _ _ _, by simp, fun f hf => (by cases hf), .inl ⟨_, rfl, rfl⟩⟩
  · simp only [List.cons.injEq, and_true] at hcs
    subst hcs hx
    simp only [if_true] at hmm
    have hlen : len ≤ reachBytes := slice_len ht hby hw
    have hint : ∀ i, i < len → ∃ z : Nat, V i = .int .u8 (z : Int) ∧ z < 256 := fun i hi => by
      obtain ⟨_, q0⟩ := hall i (by omega)
      obtain ⟨n0, e0, _, w0⟩ := DataW.trod_int he q0
      simp only [List.cons.injEq, and_true] at e0
      have := u8_wf w0
      exact ⟨n0.toNat, by rw [e0, Int.toNat_of_nonneg this.1], by omega⟩
    obtain ⟨f, hf⟩ := choose_lt (α := Nat) hint
    have hspot : 0 < cap → a = ⟨a.block, a.off, none⟩ := fun hp => by
      have hz := (hall 0 (by omega)).1
      have ha := spot_of_cell hz
      simp [Addr.add] at ha; exact ha
    refine ⟨(List.range len).map f, ?_, by simpa using hlen, ?_, ?_⟩
    · rw [List.length_map, List.length_range]
      refine ⟨by simp [bC], some a, cap, rfl, ?_⟩
      rcases Nat.eq_zero_or_pos len with h0 | hp
      · exact .inl h0
      · have hz := (hall 0 (by omega)).1
        have ha' := hspot (by omega)
        refine .inr ⟨a.block, a.off, by rw [← ha'], Nat.zero_le _, ?_, ⟨fun i u hu => ?_⟩⟩
        · have := World.block_lt_of_cell? W _ hz
          simpa [Addr.add] using this
        · have hi : i < len := by have := (List.getElem?_eq_some_iff.1 hu).1; simpa [bC] using this
          have h1 := (hall i (by omega)).1
          rw [ha', addr_add, (hf i hi).1] at h1
          simp [bC, hi] at hu
          rw [h1, hu]
    · intro p hp
      simp only [List.mem_map, List.mem_range] at hp
      obtain ⟨i, hi, rfl⟩ := hp
      exact (hf i hi).2
    · rcases Nat.eq_zero_or_pos cap with h0 | hp
      · have h1 : len = 0 := by omega
        subst h0 h1
        exact .inl ⟨some a, rfl, rfl⟩
      · exact .inr ⟨a.block, a.off, cap, by rw [← hspot hp]; simp, by simpa using hl⟩
end
end Go.Mw
