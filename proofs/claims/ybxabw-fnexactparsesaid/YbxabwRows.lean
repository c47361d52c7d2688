/-
  No cell of these rows narrows 'for every input' (looked for: loops, veiled, ifaces, maps, wideKeys, modest, calm, conditions, laid).
  DERIVED. THE GIVEN ROWS OF THIS SEAT. 12 by the template 'for every input the law returns true; each argument reads behind the call as it read before'; 0 by the template 'total and deterministic' (their statements: YbxabwTotals.lean).
  GIVEN WITH THE SEED: the statements are not yours to turn. If you find one false, say at which input.
  Laid BY PROGRAM, IN A SANDBOX (cutbox-rows.mjs): the forced cells as the released guide's own fill.sh prints them over the translation c0234b41e0c8b37a… (all of the seat's roots in one cut). By AI agents, Wed Nov 11 2026. No macro, syntax, notation, axiom, sorry.
-/
import Derived.Test.YbxabwChecked
import GoSem.Claim
import GoSem.ClaimJoined
import GoSem.ClaimMapViews
import Derived.JoinedTies
import Derived.KernelRfl
namespace Go.Proofs.Ybxabw
/- THE CELL 'sum', in the pinned program and in every row, IS THE sha256 OF THE DUMP (.gsa) THAT YbxabwProg.lean LOADS. Nothing in Lean hashes anything: it is a label: what it is worth is what the hold of that sum in a sandbox is worth. -/
noncomputable def Yabm.pinned : Pinned := { name := "ybxabw", sum := "c0234b41e0c8b37aaa9af027dbba7f0ab6d8a91b18ab3779f9ff3b24ab7c0c28", checked := Yabm.checked }
namespace Rows
def none {H : Type} : Left H := { results := [], args := [] }

/-- 'laws.FnExactConstants': WHATEVER THE INPUT: true; the input reads as it did. -/
def fnExactConstantsSpec : ChangeSpec := { name := "fnExactConstants", fn := fun _ => fun
  | [] => { results := [.lit (.bool true)], args := [] }
  | _ => none }
def fnExactConstantsRow : OpenClaim := { program := "ybxabw", sum := "c0234b41e0c8b37aaa9af027dbba7f0ab6d8a91b18ab3779f9ff3b24ab7c0c28", func := "loop.example/c021/laws.FnExactConstants", spec := "fnExactConstants", apart := false }
def FnExactConstantsSaid : Prop := fnExactConstantsRow.holds Yabm.pinned (OpenSpec.ofChange fnExactConstantsSpec)

/-- ITS FALSE NEIGHBOUR: 'it returns false'. Refute it at one input. -/
def fnExactConstantsWrong : ChangeSpec := { name := "fnExactConstants", fn := fun _ => fun
  | [] => { results := [.lit (.bool false)], args := [] }
  | _ => none }
def FnExactConstantsWrongFalsely : Prop := fnExactConstantsRow.holds Yabm.pinned (OpenSpec.ofChange fnExactConstantsWrong)

/-- 'laws.FnExactLex': WHATEVER THE INPUT: true; the input reads as it did. -/
def fnExactLexSpec : ChangeSpec := { name := "fnExactLex", fn := fun _ => fun
  | [d] => { results := [.lit (.bool true)], args := [d] }
  | _ => none }
def fnExactLexRow : OpenClaim := { program := "ybxabw", sum := "c0234b41e0c8b37aaa9af027dbba7f0ab6d8a91b18ab3779f9ff3b24ab7c0c28", func := "loop.example/c021/laws.FnExactLex", spec := "fnExactLex", apart := false }
def FnExactLexSaid : Prop := fnExactLexRow.holds Yabm.pinned (OpenSpec.ofChange fnExactLexSpec)

/-- ITS FALSE NEIGHBOUR: 'it returns false'. Refute it at one input. -/
def fnExactLexWrong : ChangeSpec := { name := "fnExactLex", fn := fun _ => fun
  | [d] => { results := [.lit (.bool false)], args := [d] }
  | _ => none }
def FnExactLexWrongFalsely : Prop := fnExactLexRow.holds Yabm.pinned (OpenSpec.ofChange fnExactLexWrong)

/-- 'laws.FnExactParse': WHATEVER THE INPUT: true; the input reads as it did. -/
def fnExactParseSpec : ChangeSpec := { name := "fnExactParse", fn := fun _ => fun
  | [d] => { results := [.lit (.bool true)], args := [d] }
  | _ => none }
def fnExactParseRow : OpenClaim := { program := "ybxabw", sum := "c0234b41e0c8b37aaa9af027dbba7f0ab6d8a91b18ab3779f9ff3b24ab7c0c28", func := "loop.example/c021/laws.FnExactParse", spec := "fnExactParse", recurses := true, apart := false }
def FnExactParseSaid : Prop := fnExactParseRow.holds Yabm.pinned (OpenSpec.ofChange fnExactParseSpec)

/-- ITS FALSE NEIGHBOUR: 'it returns false'. Refute it at one input. -/
def fnExactParseWrong : ChangeSpec := { name := "fnExactParse", fn := fun _ => fun
  | [d] => { results := [.lit (.bool false)], args := [d] }
  | _ => none }
def FnExactParseWrongFalsely : Prop := fnExactParseRow.holds Yabm.pinned (OpenSpec.ofChange fnExactParseWrong)

/-- 'laws.FnExactWellFormed': WHATEVER THE INPUT: true; the input reads as it did. -/
def fnExactWellFormedSpec : ChangeSpec := { name := "fnExactWellFormed", fn := fun _ => fun
  | [d] => { results := [.lit (.bool true)], args := [d] }
  | _ => none }
def fnExactWellFormedRow : OpenClaim := { program := "ybxabw", sum := "c0234b41e0c8b37aaa9af027dbba7f0ab6d8a91b18ab3779f9ff3b24ab7c0c28", func := "loop.example/c021/laws.FnExactWellFormed", spec := "fnExactWellFormed", recurses := true, apart := false }
def FnExactWellFormedSaid : Prop := fnExactWellFormedRow.holds Yabm.pinned (OpenSpec.ofChange fnExactWellFormedSpec)

/-- ITS FALSE NEIGHBOUR: 'it returns false'. Refute it at one input. -/
def fnExactWellFormedWrong : ChangeSpec := { name := "fnExactWellFormed", fn := fun _ => fun
  | [d] => { results := [.lit (.bool false)], args := [d] }
  | _ => none }
def FnExactWellFormedWrongFalsely : Prop := fnExactWellFormedRow.holds Yabm.pinned (OpenSpec.ofChange fnExactWellFormedWrong)

/-- 'laws.FnExactEvalExpr': WHATEVER THE INPUT: true; the input reads as it did. -/
def fnExactEvalExprSpec : ChangeSpec := { name := "fnExactEvalExpr", fn := fun _ => fun
  | [d1, d2] => { results := [.lit (.bool true)], args := [d1, d2] }
  | _ => none }
def fnExactEvalExprRow : OpenClaim := { program := "ybxabw", sum := "c0234b41e0c8b37aaa9af027dbba7f0ab6d8a91b18ab3779f9ff3b24ab7c0c28", func := "loop.example/c021/laws.FnExactEvalExpr", spec := "fnExactEvalExpr", recurses := true, apart := false }
def FnExactEvalExprSaid : Prop := fnExactEvalExprRow.holds Yabm.pinned (OpenSpec.ofChange fnExactEvalExprSpec)

/-- ITS FALSE NEIGHBOUR: 'it returns false'. Refute it at one input. -/
def fnExactEvalExprWrong : ChangeSpec := { name := "fnExactEvalExpr", fn := fun _ => fun
  | [d1, d2] => { results := [.lit (.bool false)], args := [d1, d2] }
  | _ => none }
def FnExactEvalExprWrongFalsely : Prop := fnExactEvalExprRow.holds Yabm.pinned (OpenSpec.ofChange fnExactEvalExprWrong)

/-- 'laws.FnExactCanon': WHATEVER THE INPUT: true; the input reads as it did. -/
def fnExactCanonSpec : ChangeSpec := { name := "fnExactCanon", fn := fun _ => fun
  | [d] => { results := [.lit (.bool true)], args := [d] }
  | _ => none }
def fnExactCanonRow : OpenClaim := { program := "ybxabw", sum := "c0234b41e0c8b37aaa9af027dbba7f0ab6d8a91b18ab3779f9ff3b24ab7c0c28", func := "loop.example/c021/laws.FnExactCanon", spec := "fnExactCanon", recurses := true, apart := false }
def FnExactCanonSaid : Prop := fnExactCanonRow.holds Yabm.pinned (OpenSpec.ofChange fnExactCanonSpec)

/-- ITS FALSE NEIGHBOUR: 'it returns false'. Refute it at one input. -/
def fnExactCanonWrong : ChangeSpec := { name := "fnExactCanon", fn := fun _ => fun
  | [d] => { results := [.lit (.bool false)], args := [d] }
  | _ => none }
def FnExactCanonWrongFalsely : Prop := fnExactCanonRow.holds Yabm.pinned (OpenSpec.ofChange fnExactCanonWrong)

/-- 'laws.FnExactIsCanonical': WHATEVER THE INPUT: true; the input reads as it did. -/
def fnExactIsCanonicalSpec : ChangeSpec := { name := "fnExactIsCanonical", fn := fun _ => fun
  | [d] => { results := [.lit (.bool true)], args := [d] }
  | _ => none }
def fnExactIsCanonicalRow : OpenClaim := { program := "ybxabw", sum := "c0234b41e0c8b37aaa9af027dbba7f0ab6d8a91b18ab3779f9ff3b24ab7c0c28", func := "loop.example/c021/laws.FnExactIsCanonical", spec := "fnExactIsCanonical", apart := false }
def FnExactIsCanonicalSaid : Prop := fnExactIsCanonicalRow.holds Yabm.pinned (OpenSpec.ofChange fnExactIsCanonicalSpec)

/-- ITS FALSE NEIGHBOUR: 'it returns false'. Refute it at one input. -/
def fnExactIsCanonicalWrong : ChangeSpec := { name := "fnExactIsCanonical", fn := fun _ => fun
  | [d] => { results := [.lit (.bool false)], args := [d] }
  | _ => none }
def FnExactIsCanonicalWrongFalsely : Prop := fnExactIsCanonicalRow.holds Yabm.pinned (OpenSpec.ofChange fnExactIsCanonicalWrong)

/-- 'laws.FnExactNormalize': WHATEVER THE INPUT: true; the input reads as it did. -/
def fnExactNormalizeSpec : ChangeSpec := { name := "fnExactNormalize", fn := fun _ => fun
  | [d] => { results := [.lit (.bool true)], args := [d] }
  | _ => none }
def fnExactNormalizeRow : OpenClaim := { program := "ybxabw", sum := "c0234b41e0c8b37aaa9af027dbba7f0ab6d8a91b18ab3779f9ff3b24ab7c0c28", func := "loop.example/c021/laws.FnExactNormalize", spec := "fnExactNormalize", recurses := true, apart := false }
def FnExactNormalizeSaid : Prop := fnExactNormalizeRow.holds Yabm.pinned (OpenSpec.ofChange fnExactNormalizeSpec)

/-- ITS FALSE NEIGHBOUR: 'it returns false'. Refute it at one input. -/
def fnExactNormalizeWrong : ChangeSpec := { name := "fnExactNormalize", fn := fun _ => fun
  | [d] => { results := [.lit (.bool false)], args := [d] }
  | _ => none }
def FnExactNormalizeWrongFalsely : Prop := fnExactNormalizeRow.holds Yabm.pinned (OpenSpec.ofChange fnExactNormalizeWrong)

/-- 'laws.FnExactAddPoly': WHATEVER THE INPUT: true; the input reads as it did. -/
def fnExactAddPolySpec : ChangeSpec := { name := "fnExactAddPoly", fn := fun _ => fun
  | [d1, d2] => { results := [.lit (.bool true)], args := [d1, d2] }
  | _ => none }
def fnExactAddPolyRow : OpenClaim := { program := "ybxabw", sum := "c0234b41e0c8b37aaa9af027dbba7f0ab6d8a91b18ab3779f9ff3b24ab7c0c28", func := "loop.example/c021/laws.FnExactAddPoly", spec := "fnExactAddPoly", recurses := true, apart := false }
def FnExactAddPolySaid : Prop := fnExactAddPolyRow.holds Yabm.pinned (OpenSpec.ofChange fnExactAddPolySpec)

/-- ITS FALSE NEIGHBOUR: 'it returns false'. Refute it at one input. -/
def fnExactAddPolyWrong : ChangeSpec := { name := "fnExactAddPoly", fn := fun _ => fun
  | [d1, d2] => { results := [.lit (.bool false)], args := [d1, d2] }
  | _ => none }
def FnExactAddPolyWrongFalsely : Prop := fnExactAddPolyRow.holds Yabm.pinned (OpenSpec.ofChange fnExactAddPolyWrong)

/-- 'laws.FnExactMulPoly': WHATEVER THE INPUT: true; the input reads as it did. -/
def fnExactMulPolySpec : ChangeSpec := { name := "fnExactMulPoly", fn := fun _ => fun
  | [d1, d2] => { results := [.lit (.bool true)], args := [d1, d2] }
  | _ => none }
def fnExactMulPolyRow : OpenClaim := { program := "ybxabw", sum := "c0234b41e0c8b37aaa9af027dbba7f0ab6d8a91b18ab3779f9ff3b24ab7c0c28", func := "loop.example/c021/laws.FnExactMulPoly", spec := "fnExactMulPoly", recurses := true, apart := false }
def FnExactMulPolySaid : Prop := fnExactMulPolyRow.holds Yabm.pinned (OpenSpec.ofChange fnExactMulPolySpec)

/-- ITS FALSE NEIGHBOUR: 'it returns false'. Refute it at one input. -/
def fnExactMulPolyWrong : ChangeSpec := { name := "fnExactMulPoly", fn := fun _ => fun
  | [d1, d2] => { results := [.lit (.bool false)], args := [d1, d2] }
  | _ => none }
def FnExactMulPolyWrongFalsely : Prop := fnExactMulPolyRow.holds Yabm.pinned (OpenSpec.ofChange fnExactMulPolyWrong)

/-- 'laws.FnExactEvalPoly': WHATEVER THE INPUT: true; the input reads as it did. -/
def fnExactEvalPolySpec : ChangeSpec := { name := "fnExactEvalPoly", fn := fun _ => fun
  | [d1, d2] => { results := [.lit (.bool true)], args := [d1, d2] }
  | _ => none }
def fnExactEvalPolyRow : OpenClaim := { program := "ybxabw", sum := "c0234b41e0c8b37aaa9af027dbba7f0ab6d8a91b18ab3779f9ff3b24ab7c0c28", func := "loop.example/c021/laws.FnExactEvalPoly", spec := "fnExactEvalPoly", recurses := true, apart := false }
def FnExactEvalPolySaid : Prop := fnExactEvalPolyRow.holds Yabm.pinned (OpenSpec.ofChange fnExactEvalPolySpec)

/-- ITS FALSE NEIGHBOUR: 'it returns false'. Refute it at one input. -/
def fnExactEvalPolyWrong : ChangeSpec := { name := "fnExactEvalPoly", fn := fun _ => fun
  | [d1, d2] => { results := [.lit (.bool false)], args := [d1, d2] }
  | _ => none }
def FnExactEvalPolyWrongFalsely : Prop := fnExactEvalPolyRow.holds Yabm.pinned (OpenSpec.ofChange fnExactEvalPolyWrong)

/-- 'laws.FnExactToPoly': WHATEVER THE INPUT: true; the input reads as it did. -/
def fnExactToPolySpec : ChangeSpec := { name := "fnExactToPoly", fn := fun _ => fun
  | [d] => { results := [.lit (.bool true)], args := [d] }
  | _ => none }
def fnExactToPolyRow : OpenClaim := { program := "ybxabw", sum := "c0234b41e0c8b37aaa9af027dbba7f0ab6d8a91b18ab3779f9ff3b24ab7c0c28", func := "loop.example/c021/laws.FnExactToPoly", spec := "fnExactToPoly", recurses := true, apart := false }
def FnExactToPolySaid : Prop := fnExactToPolyRow.holds Yabm.pinned (OpenSpec.ofChange fnExactToPolySpec)

/-- ITS FALSE NEIGHBOUR: 'it returns false'. Refute it at one input. -/
def fnExactToPolyWrong : ChangeSpec := { name := "fnExactToPoly", fn := fun _ => fun
  | [d] => { results := [.lit (.bool false)], args := [d] }
  | _ => none }
def FnExactToPolyWrongFalsely : Prop := fnExactToPolyRow.holds Yabm.pinned (OpenSpec.ofChange fnExactToPolyWrong)

end Rows
end Go.Proofs.Ybxabw
