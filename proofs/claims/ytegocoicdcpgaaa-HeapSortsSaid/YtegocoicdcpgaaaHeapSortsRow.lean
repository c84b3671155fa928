/- HeapSorts: for every input the law returns true, and each argument reads behind the call as it read before. No condition. -/
import Derived.Test.YtegocoicdcpgaaaHeapLaw
import Derived.Test.YtegocoicdcpgaaaBrRow
import Derived.Test.YtegocoicdcpgaaaRows
namespace Go.Proofs.Ytegocoicdcpgaaa
open Go Go.Br

theorem walk_HeapSorts (W : World) (args : List Value) (h : ArgsOk Try.prog W Try.f13.params.toList args) : CALL Try.prog 13 args W fun v W' => v = .bool true ∧ Kp [] W W' := by
  have h' : ArgsOk PG W [23] args := h
  obtain ⟨v0, r0, rfl, h0, h'⟩ := h'.cons
  obtain rfl := h'.nil
  obtain ⟨f0, h0⟩ := h0.one (by kernel_rfl)
  obtain ⟨A, xs, c, rfl, hl⟩ := rd_ints (e := 3) (by kernel_rfl) (by kernel_rfl) (by kernel_rfl) h0
  exact sorts_ok hl fun W' k => ⟨rfl, k⟩

set_option maxRecDepth 100000 in
theorem lifted_HeapSorts (os : Os) (started : os.Started) (H : Type) (enc : TypeId × Value → H) :
    ReturnsInHanded {} Try.checked os 13 .any (Rows.heapSortsSpec.pre6 enc Try.prog Try.f13 Rows.heapSortsRow.domain false) (Rows.heapSortsSpec.post enc Try.prog Try.f13 false true false false) :=
  law_lift (C := Try.checked) (bt := 4) (by kernel_rfl) started (by kernel_rfl) Try.func13 (by kernel_rfl) (by kernel_rfl) (by kernel_rfl) (by kernel_rfl) rfl
    (ChangeSpec.witness6 (enc := enc) (C := Try.checked) false ⟨#[], #[.slice none 0 0], []⟩ 8 (by kernel_rfl) (by kernel_rfl) (by kernel_rfl) (by kernel_rfl))
    (fun ds hd => by
      match ds, hd with
      | [d0], _ => rfl)
    walk_HeapSorts

set_option maxRecDepth 100000 in
theorem HeapSorts_holds : Rows.HeapSortsSaid :=
  OpenClaim.holds_of_wide 13 Try.f13 rfl rfl rfl rfl rfl rfl rfl ⟨rfl, rfl, rfl, rfl, rfl⟩ rfl rfl rfl rfl rfl (by kernel_rfl) Try.func13 (by kernel_rfl)
    (of_decide_eq_true (by kernel_rfl)) (by unfold Func.isWrapper; first | (rw [if_pos (by decide +kernel)]; kernel_rfl) | (rw [if_neg (by decide +kernel)]; exact ⟨rfl, rfl⟩))
    (fun os started H enc _ => lifted_HeapSorts os started H enc)
#print axioms HeapSorts_holds
end Go.Proofs.Ytegocoicdcpgaaa
