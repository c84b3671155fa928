/- ConnHands: what is said of the law holds. No condition. -/
import Derived.Test.YtmglifmopjedbaaGreatConnHandsRow1
import Derived.Test.YtmglifmopjedbaaGreatConnHandsClosed
set_option linter.unusedVariables false
namespace Go.Proofs.YtmglifmopjedbaaGreat
open Go Go.Br
set_option maxRecDepth 100000 in
theorem ConnHands_holds : Rows.ConnHandsSaid :=
 OpenClaim.holds_of_wide 3 Tryz.f3 rfl rfl rfl rfl rfl rfl rfl ⟨rfl,rfl,rfl,rfl,rfl⟩ rfl rfl rfl rfl rfl (by kernel_rfl) Tryz.func3 closed_ConnHands
  (of_decide_eq_true (by kernel_rfl)) (by unfold Func.isWrapper; first | (rw [if_pos (by decide +kernel)]; kernel_rfl) | (rw [if_neg (by decide +kernel)]; exact ⟨rfl,rfl⟩))
  (fun os started H enc _ => lifted_ConnHands os started H enc)
#print axioms ConnHands_holds
end Go.Proofs.YtmglifmopjedbaaGreat
