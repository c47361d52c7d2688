/-
  No cell of these rows narrows 'for every input' (looked for: loops, veiled, ifaces, maps, wideKeys, modest, calm, conditions, laid).
  DERIVED. THE GIVEN ROWS OF THIS SEAT. 1 by the template 'for every input the law returns true; each argument reads behind the call as it read before'; 0 by the template 'total and deterministic' (their statements: YbxaawGreatTotals.lean).
  GIVEN WITH THE SEED: the statements are not yours to turn. If you find one false, say at which input.
  Laid BY PROGRAM, IN A SANDBOX (cutbox-rows.mjs): the forced cells as the released guide's own fill.sh prints them over the translation 5ffd04f1d2211a8c… (all of the seat's roots in one cut). By AI agents, Wed Nov 11 2026. No macro, syntax, notation, axiom, sorry.
-/
import Derived.Test.YbxaawGreatChecked
import GoSem.Claim
import GoSem.ClaimJoined
import GoSem.ClaimMapViews
import Derived.JoinedTies
import Derived.KernelRfl
namespace Go.Proofs.YbxaawGreat
/- THE CELL 'sum', in the pinned program and in every row, IS THE sha256 OF THE DUMP (.gsa) THAT YbxaawGreatProg.lean LOADS. Nothing in Lean hashes anything: it is a label: what it is worth is what the hold of that sum in a sandbox is worth. -/
noncomputable def Yaam.pinned : Pinned := { name := "ybxaawgreat", sum := "5ffd04f1d2211a8c0c772271e2abbd5edbc3c95cca9bda72871d8aadaa76e05b", checked := Yaam.checked }
namespace Rows
def none {H : Type} : Left H := { results := [], args := [] }

/-- 'laws.FnRobust': WHATEVER THE INPUT: true; the input reads as it did. -/
def fnRobustSpec : ChangeSpec := { name := "fnRobust", fn := fun _ => fun
  | [d] => { results := [.lit (.bool true)], args := [d] }
  | _ => none }
def fnRobustRow : OpenClaim := { program := "ybxaawgreat", sum := "5ffd04f1d2211a8c0c772271e2abbd5edbc3c95cca9bda72871d8aadaa76e05b", func := "loop.example/c021/laws.FnRobust", spec := "fnRobust", recurses := true, apart := false }
def FnRobustSaid : Prop := fnRobustRow.holds Yaam.pinned (OpenSpec.ofChange fnRobustSpec)

/-- ITS FALSE NEIGHBOUR: 'it returns false'. Refute it at one input. -/
def fnRobustWrong : ChangeSpec := { name := "fnRobust", fn := fun _ => fun
  | [d] => { results := [.lit (.bool false)], args := [d] }
  | _ => none }
def FnRobustWrongFalsely : Prop := fnRobustRow.holds Yaam.pinned (OpenSpec.ofChange fnRobustWrong)

end Rows
end Go.Proofs.YbxaawGreat
