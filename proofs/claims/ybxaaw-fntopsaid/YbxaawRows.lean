/-
  No cell of these rows narrows 'for every input' (looked for: loops, veiled, ifaces, maps, wideKeys, modest, calm, conditions, laid).
  DERIVED. THE GIVEN ROWS OF THIS SEAT. 11 by the template 'for every input the law returns true; each argument reads behind the call as it read before'; 0 by the template 'total and deterministic' (their statements: YbxaawTotals.lean).
  GIVEN WITH THE SEED: the statements are not yours to turn. If you find one false, say at which input.
  Laid BY PROGRAM, IN A SANDBOX (cutbox-rows.mjs): the forced cells as the released guide's own fill.sh prints them over the translation 725d6b02c417871d… (all of the seat's roots in one cut). By AI agents, Wed Nov 11 2026. No macro, syntax, notation, axiom, sorry.
-/
import Derived.Test.YbxaawChecked
import GoSem.Claim
import GoSem.ClaimJoined
import GoSem.ClaimMapViews
import Derived.JoinedTies
import Derived.KernelRfl
namespace Go.Proofs.Ybxaaw
/- THE CELL 'sum', in the pinned program and in every row, IS THE sha256 OF THE DUMP (.gsa) THAT YbxaawProg.lean LOADS. Nothing in Lean hashes anything: it is a label: what it is worth is what the hold of that sum in a sandbox is worth. -/
noncomputable def Yaam.pinned : Pinned := { name := "ybxaaw", sum := "725d6b02c417871d8232c46052223e1e62cb85bcd0830fb14427acfdf8afbd50", checked := Yaam.checked }
namespace Rows
def none {H : Type} : Left H := { results := [], args := [] }

/-- 'laws.FnTop': WHATEVER THE INPUT: true; the input reads as it did. -/
def fnTopSpec : ChangeSpec := { name := "fnTop", fn := fun _ => fun
  | [d1, d2, d3] => { results := [.lit (.bool true)], args := [d1, d2, d3] }
  | _ => none }
def fnTopRow : OpenClaim := { program := "ybxaaw", sum := "725d6b02c417871d8232c46052223e1e62cb85bcd0830fb14427acfdf8afbd50", func := "loop.example/c021/laws.FnTop", spec := "fnTop", recurses := true, apart := false }
def FnTopSaid : Prop := fnTopRow.holds Yaam.pinned (OpenSpec.ofChange fnTopSpec)

/-- ITS FALSE NEIGHBOUR: 'it returns false'. Refute it at one input. -/
def fnTopWrong : ChangeSpec := { name := "fnTop", fn := fun _ => fun
  | [d1, d2, d3] => { results := [.lit (.bool false)], args := [d1, d2, d3] }
  | _ => none }
def FnTopWrongFalsely : Prop := fnTopRow.holds Yaam.pinned (OpenSpec.ofChange fnTopWrong)

/-- 'laws.FnLex': WHATEVER THE INPUT: true; the input reads as it did. -/
def fnLexSpec : ChangeSpec := { name := "fnLex", fn := fun _ => fun
  | [d] => { results := [.lit (.bool true)], args := [d] }
  | _ => none }
def fnLexRow : OpenClaim := { program := "ybxaaw", sum := "725d6b02c417871d8232c46052223e1e62cb85bcd0830fb14427acfdf8afbd50", func := "loop.example/c021/laws.FnLex", spec := "fnLex", apart := false }
def FnLexSaid : Prop := fnLexRow.holds Yaam.pinned (OpenSpec.ofChange fnLexSpec)

/-- ITS FALSE NEIGHBOUR: 'it returns false'. Refute it at one input. -/
def fnLexWrong : ChangeSpec := { name := "fnLex", fn := fun _ => fun
  | [d] => { results := [.lit (.bool false)], args := [d] }
  | _ => none }
def FnLexWrongFalsely : Prop := fnLexRow.holds Yaam.pinned (OpenSpec.ofChange fnLexWrong)

/-- 'laws.FnParse': WHATEVER THE INPUT: true; the input reads as it did. -/
def fnParseSpec : ChangeSpec := { name := "fnParse", fn := fun _ => fun
  | [d] => { results := [.lit (.bool true)], args := [d] }
  | _ => none }
def fnParseRow : OpenClaim := { program := "ybxaaw", sum := "725d6b02c417871d8232c46052223e1e62cb85bcd0830fb14427acfdf8afbd50", func := "loop.example/c021/laws.FnParse", spec := "fnParse", recurses := true, apart := false }
def FnParseSaid : Prop := fnParseRow.holds Yaam.pinned (OpenSpec.ofChange fnParseSpec)

/-- ITS FALSE NEIGHBOUR: 'it returns false'. Refute it at one input. -/
def fnParseWrong : ChangeSpec := { name := "fnParse", fn := fun _ => fun
  | [d] => { results := [.lit (.bool false)], args := [d] }
  | _ => none }
def FnParseWrongFalsely : Prop := fnParseRow.holds Yaam.pinned (OpenSpec.ofChange fnParseWrong)

/-- 'laws.FnWellFormed': WHATEVER THE INPUT: true; the input reads as it did. -/
def fnWellFormedSpec : ChangeSpec := { name := "fnWellFormed", fn := fun _ => fun
  | [d] => { results := [.lit (.bool true)], args := [d] }
  | _ => none }
def fnWellFormedRow : OpenClaim := { program := "ybxaaw", sum := "725d6b02c417871d8232c46052223e1e62cb85bcd0830fb14427acfdf8afbd50", func := "loop.example/c021/laws.FnWellFormed", spec := "fnWellFormed", recurses := true, apart := false }
def FnWellFormedSaid : Prop := fnWellFormedRow.holds Yaam.pinned (OpenSpec.ofChange fnWellFormedSpec)

/-- ITS FALSE NEIGHBOUR: 'it returns false'. Refute it at one input. -/
def fnWellFormedWrong : ChangeSpec := { name := "fnWellFormed", fn := fun _ => fun
  | [d] => { results := [.lit (.bool false)], args := [d] }
  | _ => none }
def FnWellFormedWrongFalsely : Prop := fnWellFormedRow.holds Yaam.pinned (OpenSpec.ofChange fnWellFormedWrong)

/-- 'laws.FnPrintRoundTrip': WHATEVER THE INPUT: true; the input reads as it did. -/
def fnPrintRoundTripSpec : ChangeSpec := { name := "fnPrintRoundTrip", fn := fun _ => fun
  | [d] => { results := [.lit (.bool true)], args := [d] }
  | _ => none }
def fnPrintRoundTripRow : OpenClaim := { program := "ybxaaw", sum := "725d6b02c417871d8232c46052223e1e62cb85bcd0830fb14427acfdf8afbd50", func := "loop.example/c021/laws.FnPrintRoundTrip", spec := "fnPrintRoundTrip", recurses := true, apart := false }
def FnPrintRoundTripSaid : Prop := fnPrintRoundTripRow.holds Yaam.pinned (OpenSpec.ofChange fnPrintRoundTripSpec)

/-- ITS FALSE NEIGHBOUR: 'it returns false'. Refute it at one input. -/
def fnPrintRoundTripWrong : ChangeSpec := { name := "fnPrintRoundTrip", fn := fun _ => fun
  | [d] => { results := [.lit (.bool false)], args := [d] }
  | _ => none }
def FnPrintRoundTripWrongFalsely : Prop := fnPrintRoundTripRow.holds Yaam.pinned (OpenSpec.ofChange fnPrintRoundTripWrong)

/-- 'laws.FnCanon': WHATEVER THE INPUT: true; the input reads as it did. -/
def fnCanonSpec : ChangeSpec := { name := "fnCanon", fn := fun _ => fun
  | [d1, d2] => { results := [.lit (.bool true)], args := [d1, d2] }
  | _ => none }
def fnCanonRow : OpenClaim := { program := "ybxaaw", sum := "725d6b02c417871d8232c46052223e1e62cb85bcd0830fb14427acfdf8afbd50", func := "loop.example/c021/laws.FnCanon", spec := "fnCanon", recurses := true, apart := false }
def FnCanonSaid : Prop := fnCanonRow.holds Yaam.pinned (OpenSpec.ofChange fnCanonSpec)

/-- ITS FALSE NEIGHBOUR: 'it returns false'. Refute it at one input. -/
def fnCanonWrong : ChangeSpec := { name := "fnCanon", fn := fun _ => fun
  | [d1, d2] => { results := [.lit (.bool false)], args := [d1, d2] }
  | _ => none }
def FnCanonWrongFalsely : Prop := fnCanonRow.holds Yaam.pinned (OpenSpec.ofChange fnCanonWrong)

/-- 'laws.FnNormalize': WHATEVER THE INPUT: true; the input reads as it did. -/
def fnNormalizeSpec : ChangeSpec := { name := "fnNormalize", fn := fun _ => fun
  | [d1, d2] => { results := [.lit (.bool true)], args := [d1, d2] }
  | _ => none }
def fnNormalizeRow : OpenClaim := { program := "ybxaaw", sum := "725d6b02c417871d8232c46052223e1e62cb85bcd0830fb14427acfdf8afbd50", func := "loop.example/c021/laws.FnNormalize", spec := "fnNormalize", recurses := true, apart := false }
def FnNormalizeSaid : Prop := fnNormalizeRow.holds Yaam.pinned (OpenSpec.ofChange fnNormalizeSpec)

/-- ITS FALSE NEIGHBOUR: 'it returns false'. Refute it at one input. -/
def fnNormalizeWrong : ChangeSpec := { name := "fnNormalize", fn := fun _ => fun
  | [d1, d2] => { results := [.lit (.bool false)], args := [d1, d2] }
  | _ => none }
def FnNormalizeWrongFalsely : Prop := fnNormalizeRow.holds Yaam.pinned (OpenSpec.ofChange fnNormalizeWrong)

/-- 'laws.FnPolyRing': WHATEVER THE INPUT: true; the input reads as it did. -/
def fnPolyRingSpec : ChangeSpec := { name := "fnPolyRing", fn := fun _ => fun
  | [d1, d2, d3] => { results := [.lit (.bool true)], args := [d1, d2, d3] }
  | _ => none }
def fnPolyRingRow : OpenClaim := { program := "ybxaaw", sum := "725d6b02c417871d8232c46052223e1e62cb85bcd0830fb14427acfdf8afbd50", func := "loop.example/c021/laws.FnPolyRing", spec := "fnPolyRing", recurses := true, apart := false }
def FnPolyRingSaid : Prop := fnPolyRingRow.holds Yaam.pinned (OpenSpec.ofChange fnPolyRingSpec)

/-- ITS FALSE NEIGHBOUR: 'it returns false'. Refute it at one input. -/
def fnPolyRingWrong : ChangeSpec := { name := "fnPolyRing", fn := fun _ => fun
  | [d1, d2, d3] => { results := [.lit (.bool false)], args := [d1, d2, d3] }
  | _ => none }
def FnPolyRingWrongFalsely : Prop := fnPolyRingRow.holds Yaam.pinned (OpenSpec.ofChange fnPolyRingWrong)

/-- 'laws.FnToPoly': WHATEVER THE INPUT: true; the input reads as it did. -/
def fnToPolySpec : ChangeSpec := { name := "fnToPoly", fn := fun _ => fun
  | [d1, d2] => { results := [.lit (.bool true)], args := [d1, d2] }
  | _ => none }
def fnToPolyRow : OpenClaim := { program := "ybxaaw", sum := "725d6b02c417871d8232c46052223e1e62cb85bcd0830fb14427acfdf8afbd50", func := "loop.example/c021/laws.FnToPoly", spec := "fnToPoly", recurses := true, apart := false }
def FnToPolySaid : Prop := fnToPolyRow.holds Yaam.pinned (OpenSpec.ofChange fnToPolySpec)

/-- ITS FALSE NEIGHBOUR: 'it returns false'. Refute it at one input. -/
def fnToPolyWrong : ChangeSpec := { name := "fnToPoly", fn := fun _ => fun
  | [d1, d2] => { results := [.lit (.bool false)], args := [d1, d2] }
  | _ => none }
def FnToPolyWrongFalsely : Prop := fnToPolyRow.holds Yaam.pinned (OpenSpec.ofChange fnToPolyWrong)

/-- 'laws.FnDiff': WHATEVER THE INPUT: true; the input reads as it did. -/
def fnDiffSpec : ChangeSpec := { name := "fnDiff", fn := fun _ => fun
  | [d1, d2] => { results := [.lit (.bool true)], args := [d1, d2] }
  | _ => none }
def fnDiffRow : OpenClaim := { program := "ybxaaw", sum := "725d6b02c417871d8232c46052223e1e62cb85bcd0830fb14427acfdf8afbd50", func := "loop.example/c021/laws.FnDiff", spec := "fnDiff", recurses := true, apart := false }
def FnDiffSaid : Prop := fnDiffRow.holds Yaam.pinned (OpenSpec.ofChange fnDiffSpec)

/-- ITS FALSE NEIGHBOUR: 'it returns false'. Refute it at one input. -/
def fnDiffWrong : ChangeSpec := { name := "fnDiff", fn := fun _ => fun
  | [d1, d2] => { results := [.lit (.bool false)], args := [d1, d2] }
  | _ => none }
def FnDiffWrongFalsely : Prop := fnDiffRow.holds Yaam.pinned (OpenSpec.ofChange fnDiffWrong)

/-- 'laws.FnPrintPolyRoundTrip': WHATEVER THE INPUT: true; the input reads as it did. -/
def fnPrintPolyRoundTripSpec : ChangeSpec := { name := "fnPrintPolyRoundTrip", fn := fun _ => fun
  | [d] => { results := [.lit (.bool true)], args := [d] }
  | _ => none }
def fnPrintPolyRoundTripRow : OpenClaim := { program := "ybxaaw", sum := "725d6b02c417871d8232c46052223e1e62cb85bcd0830fb14427acfdf8afbd50", func := "loop.example/c021/laws.FnPrintPolyRoundTrip", spec := "fnPrintPolyRoundTrip", recurses := true, apart := false }
def FnPrintPolyRoundTripSaid : Prop := fnPrintPolyRoundTripRow.holds Yaam.pinned (OpenSpec.ofChange fnPrintPolyRoundTripSpec)

/-- ITS FALSE NEIGHBOUR: 'it returns false'. Refute it at one input. -/
def fnPrintPolyRoundTripWrong : ChangeSpec := { name := "fnPrintPolyRoundTrip", fn := fun _ => fun
  | [d] => { results := [.lit (.bool false)], args := [d] }
  | _ => none }
def FnPrintPolyRoundTripWrongFalsely : Prop := fnPrintPolyRoundTripRow.holds Yaam.pinned (OpenSpec.ofChange fnPrintPolyRoundTripWrong)

end Rows
end Go.Proofs.Ybxaaw
