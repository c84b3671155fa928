/- HostRefuses: what is said of the law holds. No condition. -/
import Derived.Test.YtmdkhgibipojcaaGreatHostRefusesRow1
import Derived.Test.YtmdkhgibipojcaaGreatHostRefusesClosed
set_option linter.unusedVariables false
namespace Go.Proofs.YtmdkhgibipojcaaGreat
open Go Go.Br

set_option maxRecDepth 100000 in
theorem HostRefuses_holds : Rows.HostRefusesSaid :=
  OpenClaim.holds_of_wide 3 Tryz.f3 rfl rfl rfl rfl rfl rfl rfl ⟨rfl, rfl, rfl, rfl, rfl⟩ rfl rfl rfl rfl rfl (by kernel_rfl) Tryz.func3 closed_HostRefuses
    (of_decide_eq_true (by kernel_rfl)) (by unfold Func.isWrapper; first | (rw [if_pos (by decide +kernel)]; kernel_rfl) | (rw [if_neg (by decide +kernel)]; exact ⟨rfl, rfl⟩))
    (fun os started H enc _ => lifted_HostRefuses os started H enc)
#print axioms HostRefuses_holds
end Go.Proofs.YtmdkhgibipojcaaGreat
