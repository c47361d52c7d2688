/-
  What the laws do with an answer's terms: growing, turning over.
-/
import Derived.Test.YbxaawGreatTermW3
import Derived.Test.YbxaawGreatFromW
set_option linter.unusedVariables false
set_option linter.unusedSimpArgs false
set_option maxRecDepth 10000
namespace Go.Mw
theorem OwnT.keepTop {w w' : World} {lo hi : Nat} {eT eF : TypeId} {v : Value} {Ls : List Lt} (h : OwnT w lo hi eT eF v Ls) (hg : w.grownBy w' v.ownBlock) (hn : w'.ownsRow lo eT 2 v Ls.length (Ls.flatMap ltE)) : OwnT w' lo hi eT eF v Ls := h.setTop rfl hg hn
theorem OwnT.keepSub {w w' : World} {lo hi : Nat} {eT eF : TypeId} {v : Value} {Ls : List Lt} (h : OwnT w lo hi eT eF v Ls) {i : Nat} {t : Lt} (ht : Ls[i]? = some t) (hg : w.grownBy w' t.2.1.ownBlock) (hn : w'.ownsRow lo eF 2 t.2.1 t.2.2.length (prC t.2.2)) : OwnT w' lo hi eT eF v Ls := by
  have := h.setSub ht (fs := t.2.2) hg hn
  have e : (t.1, t.2.1, t.2.2) = t := rfl
  rwa [e, set_same ht] at this
/-- a term turned over -/
def flipL (t : Lt) : Lt := (xr .i64 t.1, t.2.1, t.2.2.map flipF)
theorem pol_flipL (Ls : List Lt) : pol (Ls.map flipL) = flipP (pol Ls) := by simp [pol, flipP, flipL, Function.comp_def]

end Go.Mw
namespace Go.Proofs.YbxaawGreat
open Go.Mw

end Go.Proofs.YbxaawGreat
