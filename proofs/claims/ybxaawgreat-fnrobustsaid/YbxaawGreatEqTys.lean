import Derived.Test.YbxaawGreatTypes
import Derived.Test.YbxaawGreatEqAgg
namespace Go.Proofs.YbxaawGreat
open Go.Mw
theorem eqTok : EqT Yaam.prog tys 63 2 := ⟨⟨_, rfl, rfl, by decide⟩, by kernel_rfl, by kernel_rfl, by kernel_rfl⟩
theorem eqNode : EqT Yaam.prog tys 80 5 := ⟨⟨_, rfl, rfl, by decide⟩, by kernel_rfl, by kernel_rfl, by kernel_rfl⟩
theorem eqFactor : EqT Yaam.prog tys 93 2 := ⟨⟨_, rfl, rfl, by decide⟩, by kernel_rfl, by kernel_rfl, by kernel_rfl⟩
end Go.Proofs.YbxaawGreat
