/-
  No cell of these rows narrows 'for every input' (looked for: loops, veiled, ifaces, maps, wideKeys, modest, calm, conditions, laid).
  DERIVED. THE GIVEN ROWS OF THIS SEAT. 6 by the template 'for every input the law returns true; each argument reads behind the call as it read before'; 0 by the template 'total and deterministic' (their statements: YbxacwTotals.lean).
  GIVEN WITH THE SEED: the statements are not yours to turn. If you find one false, say at which input.
  Laid BY PROGRAM, IN A SANDBOX (cutbox-rows.mjs): the forced cells as the released guide's own fill.sh prints them over the translation 9254193ae416ff35… (all of the seat's roots in one cut). By AI agents, Wed Nov 11 2026. No macro, syntax, notation, axiom, sorry.
-/
import Derived.Test.YbxacwChecked
import GoSem.Claim
import GoSem.ClaimJoined
import GoSem.ClaimMapViews
import Derived.JoinedTies
import Derived.KernelRfl
namespace Go.Proofs.Ybxacw
/- THE CELL 'sum', in the pinned program and in every row, IS THE sha256 OF THE DUMP (.gsa) THAT YbxacwProg.lean LOADS. Nothing in Lean hashes anything: it is a label: what it is worth is what the hold of that sum in a sandbox is worth. -/
noncomputable def Yacm.pinned : Pinned := { name := "ybxacw", sum := "9254193ae416ff35134b245776aa07e7cd39e9363d85ac206cc4b333795b3993", checked := Yacm.checked }
namespace Rows
def none {H : Type} : Left H := { results := [], args := [] }

/-- 'laws.FnExactDiff': WHATEVER THE INPUT: true; the input reads as it did. -/
def fnExactDiffSpec : ChangeSpec := { name := "fnExactDiff", fn := fun _ => fun
  | [d1, d2] => { results := [.lit (.bool true)], args := [d1, d2] }
  | _ => none }
def fnExactDiffRow : OpenClaim := { program := "ybxacw", sum := "9254193ae416ff35134b245776aa07e7cd39e9363d85ac206cc4b333795b3993", func := "loop.example/c021/laws.FnExactDiff", spec := "fnExactDiff", recurses := true, apart := false }
def FnExactDiffSaid : Prop := fnExactDiffRow.holds Yacm.pinned (OpenSpec.ofChange fnExactDiffSpec)

/-- ITS FALSE NEIGHBOUR: 'it returns false'. Refute it at one input. -/
def fnExactDiffWrong : ChangeSpec := { name := "fnExactDiff", fn := fun _ => fun
  | [d1, d2] => { results := [.lit (.bool false)], args := [d1, d2] }
  | _ => none }
def FnExactDiffWrongFalsely : Prop := fnExactDiffRow.holds Yacm.pinned (OpenSpec.ofChange fnExactDiffWrong)

/-- 'laws.FnExactDiffPoly': WHATEVER THE INPUT: true; the input reads as it did. -/
def fnExactDiffPolySpec : ChangeSpec := { name := "fnExactDiffPoly", fn := fun _ => fun
  | [d1, d2] => { results := [.lit (.bool true)], args := [d1, d2] }
  | _ => none }
def fnExactDiffPolyRow : OpenClaim := { program := "ybxacw", sum := "9254193ae416ff35134b245776aa07e7cd39e9363d85ac206cc4b333795b3993", func := "loop.example/c021/laws.FnExactDiffPoly", spec := "fnExactDiffPoly", recurses := true, apart := false }
def FnExactDiffPolySaid : Prop := fnExactDiffPolyRow.holds Yacm.pinned (OpenSpec.ofChange fnExactDiffPolySpec)

/-- ITS FALSE NEIGHBOUR: 'it returns false'. Refute it at one input. -/
def fnExactDiffPolyWrong : ChangeSpec := { name := "fnExactDiffPoly", fn := fun _ => fun
  | [d1, d2] => { results := [.lit (.bool false)], args := [d1, d2] }
  | _ => none }
def FnExactDiffPolyWrongFalsely : Prop := fnExactDiffPolyRow.holds Yacm.pinned (OpenSpec.ofChange fnExactDiffPolyWrong)

/-- 'laws.FnExactPrint': WHATEVER THE INPUT: true; the input reads as it did. -/
def fnExactPrintSpec : ChangeSpec := { name := "fnExactPrint", fn := fun _ => fun
  | [d] => { results := [.lit (.bool true)], args := [d] }
  | _ => none }
def fnExactPrintRow : OpenClaim := { program := "ybxacw", sum := "9254193ae416ff35134b245776aa07e7cd39e9363d85ac206cc4b333795b3993", func := "loop.example/c021/laws.FnExactPrint", spec := "fnExactPrint", recurses := true, apart := false }
def FnExactPrintSaid : Prop := fnExactPrintRow.holds Yacm.pinned (OpenSpec.ofChange fnExactPrintSpec)

/-- ITS FALSE NEIGHBOUR: 'it returns false'. Refute it at one input. -/
def fnExactPrintWrong : ChangeSpec := { name := "fnExactPrint", fn := fun _ => fun
  | [d] => { results := [.lit (.bool false)], args := [d] }
  | _ => none }
def FnExactPrintWrongFalsely : Prop := fnExactPrintRow.holds Yacm.pinned (OpenSpec.ofChange fnExactPrintWrong)

/-- 'laws.FnExactPrintPoly': WHATEVER THE INPUT: true; the input reads as it did. -/
def fnExactPrintPolySpec : ChangeSpec := { name := "fnExactPrintPoly", fn := fun _ => fun
  | [d] => { results := [.lit (.bool true)], args := [d] }
  | _ => none }
def fnExactPrintPolyRow : OpenClaim := { program := "ybxacw", sum := "9254193ae416ff35134b245776aa07e7cd39e9363d85ac206cc4b333795b3993", func := "loop.example/c021/laws.FnExactPrintPoly", spec := "fnExactPrintPoly", apart := false }
def FnExactPrintPolySaid : Prop := fnExactPrintPolyRow.holds Yacm.pinned (OpenSpec.ofChange fnExactPrintPolySpec)

/-- ITS FALSE NEIGHBOUR: 'it returns false'. Refute it at one input. -/
def fnExactPrintPolyWrong : ChangeSpec := { name := "fnExactPrintPoly", fn := fun _ => fun
  | [d] => { results := [.lit (.bool false)], args := [d] }
  | _ => none }
def FnExactPrintPolyWrongFalsely : Prop := fnExactPrintPolyRow.holds Yacm.pinned (OpenSpec.ofChange fnExactPrintPolyWrong)

/-- 'laws.FnExactSimplify': WHATEVER THE INPUT: true; the input reads as it did. -/
def fnExactSimplifySpec : ChangeSpec := { name := "fnExactSimplify", fn := fun _ => fun
  | [d] => { results := [.lit (.bool true)], args := [d] }
  | _ => none }
def fnExactSimplifyRow : OpenClaim := { program := "ybxacw", sum := "9254193ae416ff35134b245776aa07e7cd39e9363d85ac206cc4b333795b3993", func := "loop.example/c021/laws.FnExactSimplify", spec := "fnExactSimplify", recurses := true, apart := false }
def FnExactSimplifySaid : Prop := fnExactSimplifyRow.holds Yacm.pinned (OpenSpec.ofChange fnExactSimplifySpec)

/-- ITS FALSE NEIGHBOUR: 'it returns false'. Refute it at one input. -/
def fnExactSimplifyWrong : ChangeSpec := { name := "fnExactSimplify", fn := fun _ => fun
  | [d] => { results := [.lit (.bool false)], args := [d] }
  | _ => none }
def FnExactSimplifyWrongFalsely : Prop := fnExactSimplifyRow.holds Yacm.pinned (OpenSpec.ofChange fnExactSimplifyWrong)

/-- 'laws.FnExactDerivative': WHATEVER THE INPUT: true; the input reads as it did. -/
def fnExactDerivativeSpec : ChangeSpec := { name := "fnExactDerivative", fn := fun _ => fun
  | [d1, d2] => { results := [.lit (.bool true)], args := [d1, d2] }
  | _ => none }
def fnExactDerivativeRow : OpenClaim := { program := "ybxacw", sum := "9254193ae416ff35134b245776aa07e7cd39e9363d85ac206cc4b333795b3993", func := "loop.example/c021/laws.FnExactDerivative", spec := "fnExactDerivative", recurses := true, apart := false }
def FnExactDerivativeSaid : Prop := fnExactDerivativeRow.holds Yacm.pinned (OpenSpec.ofChange fnExactDerivativeSpec)

/-- ITS FALSE NEIGHBOUR: 'it returns false'. Refute it at one input. -/
def fnExactDerivativeWrong : ChangeSpec := { name := "fnExactDerivative", fn := fun _ => fun
  | [d1, d2] => { results := [.lit (.bool false)], args := [d1, d2] }
  | _ => none }
def FnExactDerivativeWrongFalsely : Prop := fnExactDerivativeRow.holds Yacm.pinned (OpenSpec.ofChange fnExactDerivativeWrong)

end Rows
end Go.Proofs.Ybxacw
