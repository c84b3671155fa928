/- HostAsks: what is said of the law holds. No condition. -/
import Derived.Test.YtggcccfdckeooaaGreatHostAsksRow1
import Derived.Test.YtggcccfdckeooaaGreatHostAsksClosed
set_option linter.unusedVariables false
namespace Go.Proofs.YtggcccfdckeooaaGreat
open Go Go.Br

set_option maxRecDepth 100000 in
theorem HostAsks_holds : Rows.HostAsksSaid :=
  OpenClaim.holds_of_wide 5 Tryz.f5 rfl rfl rfl rfl rfl rfl rfl ⟨rfl, rfl, rfl, rfl, rfl⟩ rfl rfl rfl rfl rfl (by kernel_rfl) Tryz.func5 closed_HostAsks
    (of_decide_eq_true (by kernel_rfl)) (by unfold Func.isWrapper; first | (rw [if_pos (by decide +kernel)]; kernel_rfl) | (rw [if_neg (by decide +kernel)]; exact ⟨rfl, rfl⟩))
    (fun os started H enc _ => lifted_HostAsks os started H enc)
#print axioms HostAsks_holds
end Go.Proofs.YtggcccfdckeooaaGreat
