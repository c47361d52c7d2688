/-
  Facts for the laws of sum and product.
-/
import Derived.Test.YbxaawS4W
import Derived.Test.YbxaawAmP
import Derived.Test.YbxaawDraw2
set_option linter.unusedVariables false
set_option linter.unusedSimpArgs false
namespace Go.Mw
theorem own_off {w : World} {b e B e' sz n : Nat} {v : Value} {cs xs : List Value} (h : w.ownsRow B e' sz v n xs) (hb : Bl w b e cs) (hne : Nat.beq e e' = false) (cs' : List Value) : (setB w b e cs').ownsRow B e' sz v n xs := by
  refine own_same h fun k hk => ?_
  have hkb : b ≠ k := by
    rintro rfl
    rcases own_slc h with ⟨rfl, _⟩ | ⟨g, cap, sp, _, hs⟩
    · simp [Value.ownBlock] at hk
    · rw [hs.val] at hk
      simp only [Value.ownBlock, Option.some.injEq] at hk
      subst hk
      have h1 := hs.bl.at_
      rw [hb.at_] at h1
      simp only [Option.some.injEq, Obj.cells.injEq] at h1
      have : e = e' := h1.2.1
      subst this
      simp at hne
  exact (Rg.set (w := w) (lo := b) (hi := b + 1) (by omega) e cs').block k (own_block_lt h hk).2 (by omega)
theorem OwnT.off {w : World} {b e lo hi : Nat} {eT eF : TypeId} {v : Value} {cs : List Value} {Ls : List Lt} (h : OwnT w lo hi eT eF v Ls) (hb : Bl w b e cs) (h1 : Nat.beq e eT = false) (h2 : Nat.beq e eF = false) (cs' : List Value) : OwnT (setB w b e cs') lo hi eT eF v Ls :=
  ⟨own_off h.top hb h1 cs', fun t ht => own_off (h.sub t ht) hb h2 cs', h.lt, h.subLt, h.ne, h.nd⟩
theorem raw_s4 {M : List MT} {Ms : List Lt} (hV : Vl M) (h : pol Ms = (rawP M).getD []) : S4 Ms := by
  rcases rawP_cases M with ⟨h1, h2⟩ | ⟨h1, h2⟩
  · rw [h2] at h
    exact s4_toP (nf_vl hV).len (nfOk_le h1) h
  · rw [h2] at h
    exact s4_nil h
theorem addP_s4 {p q : List PT} {Ms : List Lt} (h : pol Ms = (addP p q).getD []) : S4 Ms := by
  unfold addP at h
  split at h
  · rename_i hc
    exact raw_s4 (app_vl (canon_hv hc.1).vl (canon_hv hc.2).vl) h
  · exact s4_nil h
theorem mulP_s4 {p q : List PT} {Ms : List Lt} (h : pol Ms = (mulP p q).getD []) : S4 Ms := by
  unfold mulP at h
  split at h
  · rename_i hc
    exact raw_s4 (prods_vl (canon_hv hc.1) (canon_hv hc.2.1)) h
  · exact s4_nil h
end Go.Mw
