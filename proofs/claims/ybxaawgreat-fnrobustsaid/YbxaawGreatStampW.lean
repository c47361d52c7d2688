/-
  laws.stampTerms, walked.
-/
import Derived.Test.YbxaawGreatAnsW
set_option linter.unusedVariables false
set_option linter.unusedSimpArgs false
set_option maxRecDepth 10000
namespace Go.Mw
/-- factors stamped from c on -/
def SF (fs : List (Int × Int)) (c : Int) : Prop := ∀ (i : Nat) (f : Int × Int), fs[i]? = some f → f = (-1000000 - (c + i), c + i)
/-- terms stamped from a on, up to d -/
def Stm : List Lt → Int → Int → Prop
  | [], c, d => c = d
  | t :: r, c, d => t.1 = -1000000 - c ∧ SF t.2.2 (c + 1) ∧ Stm r (c + 1 + t.2.2.length) d
theorem Stm.snoc : ∀ {P : List Lt} {a c : Int} {t : Lt}, Stm P a c → t.1 = -1000000 - c → SF t.2.2 (c + 1) → Stm (P ++ [t]) a (c + 1 + t.2.2.length)
  | [], a, c, t, h, h1, h2 => by
    simp only [Stm] at h
    subst h
    exact ⟨h1, h2, rfl⟩
  | u :: P, a, c, t, h, h1, h2 => ⟨h.1, h.2.1, Stm.snoc h.2.2 h1 h2⟩
/-- small: no counter overflows -/
structure S4 (Ls : List Lt) : Prop where
  len : Ls.length ≤ 4096
  sub : ∀ t ∈ Ls, t.2.2.length ≤ 4096
theorem SF.start (fs : List (Int × Int)) (c : Int) (h : fs = []) : SF fs c := fun i f hf => by rw [h] at hf; simp at hf
/-- a prefix of j factors is stamped -/
def SFj (fs : List (Int × Int)) (c : Int) (j : Nat) : Prop := ∀ (i : Nat) (f : Int × Int), i < j → fs[i]? = some f → f = (-1000000 - (c + i), c + i)
theorem SFj.set {fs : List (Int × Int)} {c : Int} {j : Nat} (h : SFj fs c j) (hj : j < fs.length) : SFj (fs.set j (-1000000 - (c + j), c + j)) c (j + 1) := by
  intro i f hi hf
  by_cases e : i = j
  · subst e
    rw [List.getElem?_set_self hj] at hf
    simp only [Option.some.injEq] at hf
    exact hf.symm
  · rw [List.getElem?_set_ne (by omega)] at hf
    exact h i f (by omega) hf
end Go.Mw
namespace Go.Proofs.YbxaawGreat
open Go.Mw

end Go.Proofs.YbxaawGreat
