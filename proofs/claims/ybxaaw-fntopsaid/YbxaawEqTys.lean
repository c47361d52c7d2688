import Derived.Test.YbxaawTypes
import Derived.Test.YbxaawEqAgg
namespace Go.Proofs.Ybxaaw
open Go.Mw
theorem eqTok : EqT Yaam.prog tys 99 2 := ⟨⟨_, rfl, rfl, by decide⟩, by kernel_rfl, by kernel_rfl, by kernel_rfl⟩
theorem eqNode : EqT Yaam.prog tys 107 5 := ⟨⟨_, rfl, rfl, by decide⟩, by kernel_rfl, by kernel_rfl, by kernel_rfl⟩
theorem eqFactor : EqT Yaam.prog tys 109 2 := ⟨⟨_, rfl, rfl, by decide⟩, by kernel_rfl, by kernel_rfl, by kernel_rfl⟩
end Go.Proofs.Ybxaaw
