/- SchedTurns: for every input the law returns true, and each argument reads behind the call as it read before. No condition. -/
import Derived.Test.YtggajodoaooafaaSchedLaw2
import Derived.Test.YtggajodoaooafaaBrRow
import Derived.Test.YtggajodoaooafaaRows
namespace Go.Proofs.Ytggajodoaooafaa
open Go Go.Br


theorem walk_SchedTurns (W : World) (args : List Value) (h : ArgsOk Try.prog W Try.f11.params.toList args) : CALL Try.prog 11 args W fun v W' => v = .bool true ∧ Kp [] W W' := by
  have h' : ArgsOk PG W [95, 3] args := h
  obtain ⟨v0, r0, rfl, h0, h'⟩ := h'.cons
  obtain ⟨v1, r1, rfl, h1, h'⟩ := h'.cons
  obtain rfl := h'.nil
  obtain ⟨f0, h0⟩ := h0.one (by kernel_rfl)
  obtain ⟨f1, h1⟩ := h1.one (by kernel_rfl)
  obtain ⟨A, xs, c, rfl, hl⟩ := rd_ints (e := 3) (by kernel_rfl) (by kernel_rfl) (by kernel_rfl) h0
  obtain ⟨n, e1, _⟩ := rd_int (k := .i64) (by kernel_rfl) h1
  injection e1 with e1
  subst e1
  have hs := St.start (w := W) (φ := fun w => Row w A (xs.flatMap iv)) fun w' hw => Row.same hl hw
  exact turns_ok hs (RdIn.rows .head) fun W' k => ⟨rfl, k.kp⟩

set_option maxRecDepth 100000 in
theorem lifted_SchedTurns (os : Os) (started : os.Started) (H : Type) (enc : TypeId × Value → H) :
    ReturnsInHanded {} Try.checked os 11 .any (Rows.schedTurnsSpec.pre6 enc Try.prog Try.f11 Rows.schedTurnsRow.domain false) (Rows.schedTurnsSpec.post enc Try.prog Try.f11 false true false false) :=
  law_lift (C := Try.checked) (bt := 4) (by kernel_rfl) started (by kernel_rfl) Try.func11 (by kernel_rfl) (by kernel_rfl) (by kernel_rfl) (by kernel_rfl) rfl
    (ChangeSpec.witness6 (enc := enc) (C := Try.checked) false ⟨#[], #[.slice none 0 0, .int .i64 0], []⟩ 8 (by kernel_rfl) (by kernel_rfl) (by kernel_rfl) (by kernel_rfl))
    (fun ds hd => by
      match ds, hd with
      | [d0, d1], _ => rfl)
    walk_SchedTurns

set_option maxRecDepth 100000 in
theorem SchedTurns_holds : Rows.SchedTurnsSaid :=
  OpenClaim.holds_of_wide 11 Try.f11 rfl rfl rfl rfl rfl rfl rfl ⟨rfl, rfl, rfl, rfl, rfl⟩ rfl rfl rfl rfl rfl (by kernel_rfl) Try.func11 (by kernel_rfl)
    (of_decide_eq_true (by kernel_rfl)) (by unfold Func.isWrapper; first | (rw [if_pos (by decide +kernel)]; kernel_rfl) | (rw [if_neg (by decide +kernel)]; exact ⟨rfl, rfl⟩))
    (fun os started H enc _ => lifted_SchedTurns os started H enc)
#print axioms SchedTurns_holds
end Go.Proofs.Ytggajodoaooafaa
