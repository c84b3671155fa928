/- WheelPlays: for every input the law returns true, and each argument reads behind the call as it read before. No condition. -/
import Derived.Test.YtccmlfekmmeloaaWheelPlaysLaw
import Derived.Test.YtccmlfekmmeloaaBrRow
import Derived.Test.YtccmlfekmmeloaaRows
set_option linter.unusedVariables false
namespace Go.Proofs.Ytccmlfekmmeloaa
open Go Go.Br

def op_rd_wf (W : World) (x : Op29) : Prop := (-9223372036854775808 ≤ x.kind ∧ x.kind ≤ 9223372036854775807) ∧ (-9223372036854775808 ≤ x.id ∧ x.id ≤ 9223372036854775807) ∧ (-9223372036854775808 ≤ x.n ∧ x.n ≤ 9223372036854775807)
theorem op_rd {W : World} {f : Nat} {es : List Value} (h : RdT PG W f 87 es) : ∃ x : Op29, es = op29 x ∧ op_rd_wf W x := by
  obtain ⟨c2, _, h3⟩ := rd_field (i := 0) (off := 0) (ft := 3) (z := 3) (z' := 1) (by kernel_rfl) (by kernel_rfl) (by kernel_rfl) h
  obtain ⟨c4, _, h5⟩ := rd_field (i := 1) (off := 1) (ft := 3) (z := 3) (z' := 1) (by kernel_rfl) (by kernel_rfl) (by kernel_rfl) h
  obtain ⟨c6, _, h7⟩ := rd_field (i := 2) (off := 2) (ft := 3) (z := 3) (z' := 1) (by kernel_rfl) (by kernel_rfl) (by kernel_rfl) h
  obtain ⟨xq8, eq8, wq8⟩ := rd_int (k := .i64) (by kernel_rfl) h3
  have vq8 : -9223372036854775808 ≤ xq8 ∧ xq8 ≤ 9223372036854775807 := by simp [Lit.wf, IntKind.min, IntKind.max, IntKind.signed, IntKind.bits] at wq8; omega
  obtain ⟨xq9, eq9, wq9⟩ := rd_int (k := .i64) (by kernel_rfl) h5
  have vq9 : -9223372036854775808 ≤ xq9 ∧ xq9 ≤ 9223372036854775807 := by simp [Lit.wf, IntKind.min, IntKind.max, IntKind.signed, IntKind.bits] at wq9; omega
  obtain ⟨xq10, eq10, wq10⟩ := rd_int (k := .i64) (by kernel_rfl) h7
  have vq10 : -9223372036854775808 ≤ xq10 ∧ xq10 ≤ 9223372036854775807 := by simp [Lit.wf, IntKind.min, IntKind.max, IntKind.signed, IntKind.bits] at wq10; omega
  match es, c2 with
  | [u0, u1, u2], _ =>
    simp at eq8 eq9 eq10
    subst eq8; subst eq9; subst eq10
    exact ⟨⟨xq8, xq9, xq10⟩, rfl, ⟨vq8, vq9, vq10⟩⟩
theorem walk_WheelPlays (W : World) (args : List Value) (h : ArgsOk Try.prog W Try.f10.params.toList args) : CALL Try.prog 10 args W fun v W' => v = .bool true ∧ Kp [] W W' := by
  have h' : ArgsOk PG W [3, 83] args := h
  obtain ⟨v0, r0, rfl, h0, h'⟩ := h'.cons
  obtain ⟨v1, r1, rfl, h1, h'⟩ := h'.cons
  obtain rfl := h'.nil
  obtain ⟨f0, h0⟩ := h0.one (by kernel_rfl)
  obtain ⟨f1, h1⟩ := h1.one (by kernel_rfl)
  obtain ⟨x, e, _⟩ := rd_int (k := .i64) (by kernel_rfl) h0
  injection e with e
  subst e
  obtain ⟨A, l, c, rfl, _, _, hl, hw⟩ := rows_rd (z := 3) op_rd h1
  have hs := St.start (w := W) (φ := fun w => Row w A (l.flatMap op29)) fun w' hw => hl.same hw
  exact plays29_ok hs (RdIn.rows .head) fun W' k => ⟨rfl, k.kp⟩

set_option maxRecDepth 100000 in
theorem lifted_WheelPlays (os : Os) (started : os.Started) (H : Type) (enc : TypeId × Value → H) :
    ReturnsInHanded {} Try.checked os 10 .any (Rows.wheelPlaysSpec.pre6 enc Try.prog Try.f10 Rows.wheelPlaysRow.domain false) (Rows.wheelPlaysSpec.post enc Try.prog Try.f10 false true false false) :=
  law_lift (C := Try.checked) (bt := 4) (by kernel_rfl) started (by kernel_rfl) Try.func10 (by kernel_rfl) (by kernel_rfl) (by kernel_rfl) (by kernel_rfl) rfl
    (ChangeSpec.witness6 (enc := enc) (C := Try.checked) false ⟨#[], #[.int .i64 0, .slice none 0 0], []⟩ 8 (by kernel_rfl) (by kernel_rfl) (by kernel_rfl) (by kernel_rfl))
    (fun ds hd => by
      match ds, hd with
      | [d0, d1], _ => rfl)
    walk_WheelPlays

set_option maxRecDepth 100000 in
theorem WheelPlays_holds : Rows.WheelPlaysSaid :=
  OpenClaim.holds_of_wide 10 Try.f10 rfl rfl rfl rfl rfl rfl rfl ⟨rfl, rfl, rfl, rfl, rfl⟩ rfl rfl rfl rfl rfl (by kernel_rfl) Try.func10 (by kernel_rfl)
    (of_decide_eq_true (by kernel_rfl)) (by unfold Func.isWrapper; first | (rw [if_pos (by decide +kernel)]; kernel_rfl) | (rw [if_neg (by decide +kernel)]; exact ⟨rfl, rfl⟩))
    (fun os started H enc _ => lifted_WheelPlays os started H enc)
#print axioms WheelPlays_holds
end Go.Proofs.Ytccmlfekmmeloaa
