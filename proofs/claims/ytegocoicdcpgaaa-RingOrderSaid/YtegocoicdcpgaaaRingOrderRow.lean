/- RingOrder: for every input the law returns true, and each argument reads behind the call as it read before. No condition. -/
import Derived.Test.YtegocoicdcpgaaaRingLaw
import Derived.Test.YtegocoicdcpgaaaBrRow
import Derived.Test.YtegocoicdcpgaaaRows
namespace Go.Proofs.Ytegocoicdcpgaaa
open Go Go.Br

theorem walk_RingOrder (W : World) (args : List Value) (h : ArgsOk Try.prog W Try.f3.params.toList args) : CALL Try.prog 3 args W fun v W' => v = .bool true ∧ Kp [] W W' := by
  have h' : ArgsOk PG W [3, 22, 23] args := h
  obtain ⟨v0, r0, rfl, h0, h'⟩ := h'.cons
  obtain ⟨v1, r1, rfl, h1, h'⟩ := h'.cons
  obtain ⟨v2, r2, rfl, h2, h'⟩ := h'.cons
  obtain rfl := h'.nil
  obtain ⟨f0, h0⟩ := h0.one (by kernel_rfl)
  obtain ⟨f1, h1⟩ := h1.one (by kernel_rfl)
  obtain ⟨f2, h2⟩ := h2.one (by kernel_rfl)
  have ui : PG.underlying 3 = some (.int .i64) := by kernel_rfl
  obtain ⟨size, e0, _⟩ := rd_int ui h0
  obtain ⟨g1, A1, n1, c1, e1, _, _, hl⟩ := rd_slice (e := 28) (z := 1) (by kernel_rfl) (by kernel_rfl) h1
  obtain ⟨g2, A2, n2, c2, e2, _, _, hr⟩ := rd_slice (e := 3) (z := 1) (by kernel_rfl) (by kernel_rfl) h2
  injection e0 with e0; injection e1 with e1; injection e2 with e2
  subst e0; subst e1; subst e2
  refine order_ok (fun i hi => ?_) (fun i hi => ?_) fun W' k => ⟨rfl, k⟩
  · obtain ⟨a, es, q1, q2, q3, q4⟩ := hl i hi
    obtain ⟨B, m, c, xs, rfl, hm, _, hx, hrow⟩ := rd_bytes (e := 5) (by kernel_rfl) (by kernel_rfl) (by kernel_rfl) q4
    refine ⟨a, B, m, c, xs, q1, ?_, hm, hx, hrow⟩
    have := q3 0 _ rfl
    rwa [Nat.mul_one, Nat.add_zero] at this
  · obtain ⟨a, es, q1, q2, q3, q4⟩ := hr i hi
    obtain ⟨x, rfl, _⟩ := rd_int ui q4
    refine ⟨a, x, q1, ?_⟩
    have := q3 0 _ rfl
    rwa [Nat.mul_one, Nat.add_zero] at this

set_option maxRecDepth 100000 in
theorem lifted_RingOrder (os : Os) (started : os.Started) (H : Type) (enc : TypeId × Value → H) :
    ReturnsInHanded {} Try.checked os 3 .any (Rows.ringOrderSpec.pre6 enc Try.prog Try.f3 Rows.ringOrderRow.domain false) (Rows.ringOrderSpec.post enc Try.prog Try.f3 false true false false) :=
  law_lift (C := Try.checked) (bt := 4) (by kernel_rfl) started (by kernel_rfl) Try.func3 (by kernel_rfl) (by kernel_rfl) (by kernel_rfl) (by kernel_rfl) rfl
    (ChangeSpec.witness6 (enc := enc) (C := Try.checked) false ⟨#[], #[.int .i64 0, .slice none 0 0, .slice none 0 0], []⟩ 8 (by kernel_rfl) (by kernel_rfl) (by kernel_rfl) (by kernel_rfl))
    (fun ds hd => by
      match ds, hd with
      | [d0, d1, d2], _ => rfl)
    walk_RingOrder

set_option maxRecDepth 100000 in
theorem RingOrder_holds : Rows.RingOrderSaid :=
  OpenClaim.holds_of_wide 3 Try.f3 rfl rfl rfl rfl rfl rfl rfl ⟨rfl, rfl, rfl, rfl, rfl⟩ rfl rfl rfl rfl rfl (by kernel_rfl) Try.func3 (by kernel_rfl)
    (of_decide_eq_true (by kernel_rfl)) (by unfold Func.isWrapper; first | (rw [if_pos (by decide +kernel)]; kernel_rfl) | (rw [if_neg (by decide +kernel)]; exact ⟨rfl, rfl⟩))
    (fun os started H enc _ => lifted_RingOrder os started H enc)
#print axioms RingOrder_holds
end Go.Proofs.Ytegocoicdcpgaaa
