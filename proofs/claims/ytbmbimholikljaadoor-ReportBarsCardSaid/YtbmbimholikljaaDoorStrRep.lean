/- strings.Repeat, by the library's contract. -/
import Derived.Test.YtbmbimholikljaaDoorLlayRepeat
import Derived.Test.YtbmbimholikljaaDoorStrJoin
set_option linter.unusedVariables false
namespace Go.Br
open Go
attribute [local irreducible] Addr.add RD RDS RUN RUNU NILC LETB CALL CALLX CALLV

theorem exRepeat : Go.Proofs.Builder.Extra PG Go.Proofs.Tryd.layRepeat_ren := {
  sizeBuilder := by kernel_rfl
  liesBuilder := by kernel_rfl
  t5 := Go.Proofs.Tryd.underlying5
  a5 := Go.Proofs.Tryd.isAgg5
  z5 := Go.Proofs.Tryd.sizeOf5
  v5 := Go.Proofs.Tryd.zeroValue5
  infoByte := by kernel_rfl
  cellsByte := by kernel_rfl
  sizeByte := by kernel_rfl
  neB5 := by decide }
section
variable {c : Ctx} {w : World} {L R : List SA}
/-- Any text, any number of times. -/
theorem repeatS_ok (h : St c w L) {s : ByteArray} {n : Nat} (hn : n ≤ 1000000) (hl : s.size * n ≤ 140737488355328) {Q : Value → World → Prop}
    (hk : ∀ w', St c w' L → Q (.string (strOf (Lib.repeatL s.data.toList n))) w') : CALL PG 14 [.string s, .int .i64 (n : Int)] w Q := by
  unfold CALL
  exact (Go.Proofs.Any.strings_Repeat Go.Proofs.Tryd.layRepeat exRepeat s n w (by omega) hl).mono fun e w' ⟨he, hw⟩ => by
    subst he
    exact hk _ (h.keep (below_kp hw))
end
end Go.Br
