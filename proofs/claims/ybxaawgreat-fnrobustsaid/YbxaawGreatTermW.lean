/-
  What the laws do with terms: copying in and out.
-/
import Derived.Test.YbxaawGreatPolyM2
import Derived.Test.YbxaawGreatCanW2
set_option linter.unusedVariables false
set_option linter.unusedSimpArgs false
set_option maxRecDepth 10000
namespace Go.Proofs.YbxaawGreat
open Go.Mw

theorem own_form {w : World} {B e sz n : Nat} {v : Value} {xs : List Value} (h : w.ownsRow B e sz v n xs) : ∃ a c, v = .slice a n c := by
  rcases own_slc h with ⟨rfl, rfl, _⟩ | ⟨g, cap, sp, _, hs⟩
  · exact ⟨_, _, rfl⟩
  · exact ⟨_, _, hs.val⟩

end Go.Proofs.YbxaawGreat
