import Derived.Test.YbxabwTypes
import Derived.Test.YbxabwEqAgg
namespace Go.Proofs.Ybxabw
open Go.Mw
theorem eqTok : EqT Yabm.prog tys 95 2 := ⟨⟨_, rfl, rfl, by decide⟩, by kernel_rfl, by kernel_rfl, by kernel_rfl⟩
theorem eqNode : EqT Yabm.prog tys 113 5 := ⟨⟨_, rfl, rfl, by decide⟩, by kernel_rfl, by kernel_rfl, by kernel_rfl⟩
theorem eqFactor : EqT Yabm.prog tys 135 2 := ⟨⟨_, rfl, rfl, by decide⟩, by kernel_rfl, by kernel_rfl, by kernel_rfl⟩
end Go.Proofs.Ybxabw
