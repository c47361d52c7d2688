/-
  What the laws do with terms: comparing, turning over, holding.
-/
import Derived.Test.YbxaawGreatTermW
set_option linter.unusedVariables false
set_option linter.unusedSimpArgs false
set_option maxRecDepth 10000
namespace Go.Proofs.YbxaawGreat
open Go.Mw

end Go.Proofs.YbxaawGreat
