/- FlightEnds: for every input the law returns true, and each argument reads behind the call as it read before. No condition. -/
import Derived.Test.YtegocoicdcpgaaaFlightLaw
import Derived.Test.YtegocoicdcpgaaaBrRow
import Derived.Test.YtegocoicdcpgaaaRows
namespace Go.Proofs.Ytegocoicdcpgaaa
open Go Go.Br

theorem walk_FlightEnds (W : World) (args : List Value) (h : ArgsOk Try.prog W Try.f6.params.toList args) : CALL Try.prog 6 args W fun v W' => v = .bool true ∧ Kp [] W W' := by
  have h' : ArgsOk PG W [23, 40, 3] args := h
  obtain ⟨v0, r0, rfl, h0, h'⟩ := h'.cons
  obtain ⟨v1, r1, rfl, h1, h'⟩ := h'.cons
  obtain ⟨v2, r2, rfl, h2, h'⟩ := h'.cons
  obtain rfl := h'.nil
  obtain ⟨f0, h0⟩ := h0.one (by kernel_rfl)
  obtain ⟨f1, h1⟩ := h1.one (by kernel_rfl)
  obtain ⟨f2, h2⟩ := h2.one (by kernel_rfl)
  obtain ⟨A, xs, c, rfl, hl⟩ := rd_ints (e := 3) (by kernel_rfl) (by kernel_rfl) (by kernel_rfl) h0
  obtain ⟨n, e1, _⟩ := rd_int (k := .u64) (by kernel_rfl) h1
  obtain ⟨m, e2, _⟩ := rd_int (k := .i64) (by kernel_rfl) h2
  injection e1 with e1; injection e2 with e2
  subst e1; subst e2
  exact ends_ok hl fun W' k => ⟨rfl, k⟩

set_option maxRecDepth 100000 in
theorem lifted_FlightEnds (os : Os) (started : os.Started) (H : Type) (enc : TypeId × Value → H) :
    ReturnsInHanded {} Try.checked os 6 .any (Rows.flightEndsSpec.pre6 enc Try.prog Try.f6 Rows.flightEndsRow.domain false) (Rows.flightEndsSpec.post enc Try.prog Try.f6 false true false false) :=
  law_lift (C := Try.checked) (bt := 4) (by kernel_rfl) started (by kernel_rfl) Try.func6 (by kernel_rfl) (by kernel_rfl) (by kernel_rfl) (by kernel_rfl) rfl
    (ChangeSpec.witness6 (enc := enc) (C := Try.checked) false ⟨#[], #[.slice none 0 0, .int .u64 0, .int .i64 0], []⟩ 8 (by kernel_rfl) (by kernel_rfl) (by kernel_rfl) (by kernel_rfl))
    (fun ds hd => by
      match ds, hd with
      | [d0, d1, d2], _ => rfl)
    walk_FlightEnds

set_option maxRecDepth 100000 in
theorem FlightEnds_holds : Rows.FlightEndsSaid :=
  OpenClaim.holds_of_wide 6 Try.f6 rfl rfl rfl rfl rfl rfl rfl ⟨rfl, rfl, rfl, rfl, rfl⟩ rfl rfl rfl rfl rfl (by kernel_rfl) Try.func6 (by kernel_rfl)
    (of_decide_eq_true (by kernel_rfl)) (by unfold Func.isWrapper; first | (rw [if_pos (by decide +kernel)]; kernel_rfl) | (rw [if_neg (by decide +kernel)]; exact ⟨rfl, rfl⟩))
    (fun os started H enc _ => lifted_FlightEnds os started H enc)
#print axioms FlightEnds_holds
end Go.Proofs.Ytegocoicdcpgaaa
