/-
  What the laws do with terms: turning over.
-/
import Derived.Test.YbxaawGreatTermW2
set_option linter.unusedVariables false
set_option linter.unusedSimpArgs false
set_option maxRecDepth 10000
namespace Go.Mw
/-- term t turned over -/
def flipC (t : Lt) : Lt := (xr .i64 t.1, t.2)
def flipS (t : Lt) : Lt := (t.1, t.2.1, t.2.2.map flipF)
theorem set_same {α : Type} {a : List α} {k : Nat} {x : α} (h : a[k]? = some x) : a.set k x = a := by
  apply List.ext_getElem?
  intro i
  by_cases hi : i = k
  · subst hi; rw [List.getElem?_set_self (List.getElem?_eq_some_iff.1 h).1, h]
  · rw [List.getElem?_set_ne (by omega)]
theorem pol_flip (Ls : List Lt) : pol ((Ls.map flipC).map flipS) = flipP (pol Ls) := by simp [pol, flipP, flipC, flipS, Function.comp_def]
end Go.Mw
namespace Go.Proofs.YbxaawGreat
open Go.Mw

end Go.Proofs.YbxaawGreat
