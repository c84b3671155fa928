/- slices.Sort of numbers: chance. -/
import Derived.Test.YtccmlfekmmeloaaNPdq6
import Derived.Test.YtccmlfekmmeloaaPdq5
set_option linter.unusedVariables false
set_option linter.unusedSimpArgs false
set_option linter.unnecessarySimpa false
namespace Go.Br
open Go
attribute [local irreducible] Addr.add RD RDS RUN RUNU NILC LETB CALL CALLX CALLV

section
variable {c : Ctx} {w : World} {L R : List SA}
theorem xnext_ok (h : St c w L) {q : Nat} {s : Int} (hp : Pick (Br.blk q 303 [.int .u64 s]) L R) {Q : Value → World → Prop} (hk : ∀ (x : Int) w', 0 ≤ x → x < 18446744073709551616 → St c w' (Br.blk q 303 [.int .u64 x] :: R) → Q (.int .u64 x) w') : CALL PG 178 [.pointer (some ⟨q, 0, none⟩)] w Q := by
  have h := h.pick hp
  refine call178 ?_
  unfold N178
  have h := h.drew
  refine nilc (h.rdvI (nilc (h.rdvI ⟨by decide, nilc (h.stV fun w' h => ?_)⟩)))
  have h := h.drew
  refine nilc (h.rdvI (nilc (h.rdvI ⟨by decide, nilc (h.stV fun w' h => ?_)⟩)))
  have h := h.drew
  refine nilc (h.rdvI (nilc (h.rdvI ⟨by decide, nilc (h.stV fun w' h => ?_)⟩)))
  refine nilc (h.rdvI (leti rfl (hk _ _ ?_ ?_ h)))
  all_goals (rw [wrapU64]; omega)
end
end Go.Br
