/- HistRows: for every input the law returns true, and each argument reads behind the call as it read before. No condition. -/
import Derived.Test.YtegocoicdcpgaaaHistLaw
import Derived.Test.YtegocoicdcpgaaaBrRow
import Derived.Test.YtegocoicdcpgaaaRows
namespace Go.Proofs.Ytegocoicdcpgaaa
open Go Go.Br

theorem walk_HistRows (W : World) (args : List Value) (h : ArgsOk Try.prog W Try.f5.params.toList args) : CALL Try.prog 5 args W fun v W' => v = .bool true ∧ Kp [] W W' := by
  have h' : ArgsOk PG W [3, 3] args := h
  obtain ⟨v0, r0, rfl, h0, h'⟩ := h'.cons
  obtain ⟨v1, r1, rfl, h1, h'⟩ := h'.cons
  obtain rfl := h'.nil
  obtain ⟨f0, h0⟩ := h0.one (by kernel_rfl)
  obtain ⟨f1, h1⟩ := h1.one (by kernel_rfl)
  obtain ⟨n, e0, _⟩ := rd_int (k := .i64) (by kernel_rfl) h0
  obtain ⟨row, e1, _⟩ := rd_int (k := .i64) (by kernel_rfl) h1
  injection e0 with e0; injection e1 with e1
  subst e0; subst e1
  exact rows_ok fun W' k => ⟨rfl, k⟩

set_option maxRecDepth 100000 in
theorem lifted_HistRows (os : Os) (started : os.Started) (H : Type) (enc : TypeId × Value → H) :
    ReturnsInHanded {} Try.checked os 5 .any (Rows.histRowsSpec.pre6 enc Try.prog Try.f5 Rows.histRowsRow.domain false) (Rows.histRowsSpec.post enc Try.prog Try.f5 false true false false) :=
  law_lift (C := Try.checked) (bt := 4) (by kernel_rfl) started (by kernel_rfl) Try.func5 (by kernel_rfl) (by kernel_rfl) (by kernel_rfl) (by kernel_rfl) rfl
    (ChangeSpec.witness6 (enc := enc) (C := Try.checked) false ⟨#[], #[.int .i64 0, .int .i64 0], []⟩ 8 (by kernel_rfl) (by kernel_rfl) (by kernel_rfl) (by kernel_rfl))
    (fun ds hd => by
      match ds, hd with
      | [d0, d1], _ => rfl)
    walk_HistRows

set_option maxRecDepth 100000 in
theorem HistRows_holds : Rows.HistRowsSaid :=
  OpenClaim.holds_of_wide 5 Try.f5 rfl rfl rfl rfl rfl rfl rfl ⟨rfl, rfl, rfl, rfl, rfl⟩ rfl rfl rfl rfl rfl (by kernel_rfl) Try.func5 (by kernel_rfl)
    (of_decide_eq_true (by kernel_rfl)) (by unfold Func.isWrapper; first | (rw [if_pos (by decide +kernel)]; kernel_rfl) | (rw [if_neg (by decide +kernel)]; exact ⟨rfl, rfl⟩))
    (fun os started H enc _ => lifted_HistRows os started H enc)
#print axioms HistRows_holds
end Go.Proofs.Ytegocoicdcpgaaa
