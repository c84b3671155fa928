/- AuditFits: what is said of the law holds. No condition. -/
import Derived.Test.YtedgfhklpfmjaaaGreatAuditFitsRow1
import Derived.Test.YtedgfhklpfmjaaaGreatAuditFitsClosed
set_option linter.unusedVariables false
namespace Go.Proofs.YtedgfhklpfmjaaaGreat
open Go Go.Br

set_option maxRecDepth 100000 in
theorem AuditFits_holds : Rows.AuditFitsSaid :=
  OpenClaim.holds_of_wide 3 Tryz.f3 rfl rfl rfl rfl rfl rfl rfl ⟨rfl, rfl, rfl, rfl, rfl⟩ rfl rfl rfl rfl rfl (by kernel_rfl) Tryz.func3 closed_AuditFits
    (of_decide_eq_true (by kernel_rfl)) (by unfold Func.isWrapper; first | (rw [if_pos (by decide +kernel)]; kernel_rfl) | (rw [if_neg (by decide +kernel)]; exact ⟨rfl, rfl⟩))
    (fun os started H enc _ => lifted_AuditFits os started H enc)
#print axioms AuditFits_holds
end Go.Proofs.YtedgfhklpfmjaaaGreat
