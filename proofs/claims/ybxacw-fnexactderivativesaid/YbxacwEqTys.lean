import Derived.Test.YbxacwTypes
import Derived.Test.YbxacwEqAgg
namespace Go.Proofs.Ybxacw
open Go.Mw
theorem eqTok : EqT Yacm.prog tys 159 2 := ⟨⟨_, rfl, rfl, by decide⟩, by kernel_rfl, by kernel_rfl, by kernel_rfl⟩
theorem eqNode : EqT Yacm.prog tys 84 5 := ⟨⟨_, rfl, rfl, by decide⟩, by kernel_rfl, by kernel_rfl, by kernel_rfl⟩
theorem eqFactor : EqT Yacm.prog tys 117 2 := ⟨⟨_, rfl, rfl, by decide⟩, by kernel_rfl, by kernel_rfl, by kernel_rfl⟩
end Go.Proofs.Ybxacw
