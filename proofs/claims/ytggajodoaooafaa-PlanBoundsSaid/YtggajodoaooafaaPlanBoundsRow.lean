/- PlanBounds: for every input the law returns true, and each argument reads behind the call as it read before. No condition. -/
import Derived.Test.YtggajodoaooafaaPlanLaw2
import Derived.Test.YtggajodoaooafaaBrRow
import Derived.Test.YtggajodoaooafaaRows
namespace Go.Proofs.Ytggajodoaooafaa
open Go Go.Br

set_option linter.unusedVariables false
def path_rd_wf (W : World) (x : Pp) : Prop := (-9223372036854775808 ≤ x.id ∧ x.id ≤ 9223372036854775807) ∧ (-9223372036854775808 ≤ x.mean ∧ x.mean ≤ 9223372036854775807) ∧ (-9223372036854775808 ≤ x.tries ∧ x.tries ≤ 9223372036854775807)
theorem path_rd {W : World} {f : Nat} {es : List Value} (h : RdT PG W f 108 es) : ∃ x : Pp, es = pp x ∧ path_rd_wf W x := by
  obtain ⟨c2, _, h3⟩ := rd_field (i := 0) (off := 0) (ft := 3) (z := 7) (z' := 1) (by kernel_rfl) (by kernel_rfl) (by kernel_rfl) h
  obtain ⟨c4, _, h5⟩ := rd_field (i := 1) (off := 1) (ft := 4) (z := 7) (z' := 1) (by kernel_rfl) (by kernel_rfl) (by kernel_rfl) h
  obtain ⟨c6, _, h7⟩ := rd_field (i := 2) (off := 2) (ft := 4) (z := 7) (z' := 1) (by kernel_rfl) (by kernel_rfl) (by kernel_rfl) h
  obtain ⟨c8, _, h9⟩ := rd_field (i := 3) (off := 3) (ft := 4) (z := 7) (z' := 1) (by kernel_rfl) (by kernel_rfl) (by kernel_rfl) h
  obtain ⟨c10, _, h11⟩ := rd_field (i := 4) (off := 4) (ft := 4) (z := 7) (z' := 1) (by kernel_rfl) (by kernel_rfl) (by kernel_rfl) h
  obtain ⟨c12, _, h13⟩ := rd_field (i := 5) (off := 5) (ft := 3) (z := 7) (z' := 1) (by kernel_rfl) (by kernel_rfl) (by kernel_rfl) h
  obtain ⟨c14, _, h15⟩ := rd_field (i := 6) (off := 6) (ft := 3) (z := 7) (z' := 1) (by kernel_rfl) (by kernel_rfl) (by kernel_rfl) h
  obtain ⟨xq16, eq16, wq16⟩ := rd_int (k := .i64) (by kernel_rfl) h3
  have vq16 : -9223372036854775808 ≤ xq16 ∧ xq16 ≤ 9223372036854775807 := by simp [Lit.wf, IntKind.min, IntKind.max, IntKind.signed, IntKind.bits] at wq16; omega
  obtain ⟨xq17, eq17⟩ := rd_bool (by kernel_rfl) h5
  obtain ⟨xq18, eq18⟩ := rd_bool (by kernel_rfl) h7
  obtain ⟨xq19, eq19⟩ := rd_bool (by kernel_rfl) h9
  obtain ⟨xq20, eq20⟩ := rd_bool (by kernel_rfl) h11
  obtain ⟨xq21, eq21, wq21⟩ := rd_int (k := .i64) (by kernel_rfl) h13
  have vq21 : -9223372036854775808 ≤ xq21 ∧ xq21 ≤ 9223372036854775807 := by simp [Lit.wf, IntKind.min, IntKind.max, IntKind.signed, IntKind.bits] at wq21; omega
  obtain ⟨xq22, eq22, wq22⟩ := rd_int (k := .i64) (by kernel_rfl) h15
  have vq22 : -9223372036854775808 ≤ xq22 ∧ xq22 ≤ 9223372036854775807 := by simp [Lit.wf, IntKind.min, IntKind.max, IntKind.signed, IntKind.bits] at wq22; omega
  match es, c2 with
  | [u0, u1, u2, u3, u4, u5, u6], _ =>
    simp at eq16 eq17 eq18 eq19 eq20 eq21 eq22
    subst eq16; subst eq17; subst eq18; subst eq19; subst eq20; subst eq21; subst eq22
    exact ⟨⟨xq16, xq17, xq18, xq19, xq20, xq21, xq22⟩, rfl, ⟨vq16, vq21, vq22⟩⟩
theorem walk_PlanBounds (W : World) (args : List Value) (h : ArgsOk Try.prog W Try.f12.params.toList args) : CALL Try.prog 12 args W fun v W' => v = .bool true ∧ Kp [] W W' := by
  have h' : ArgsOk PG W [105, 3, 106] args := h
  obtain ⟨v0, r0, rfl, h0, h'⟩ := h'.cons
  obtain ⟨v1, r1, rfl, h1, h'⟩ := h'.cons
  obtain ⟨v2, r2, rfl, h2, h'⟩ := h'.cons
  obtain rfl := h'.nil
  obtain ⟨f0, h0⟩ := h0.one (by kernel_rfl)
  obtain ⟨f1, h1⟩ := h1.one (by kernel_rfl)
  obtain ⟨f2, h2⟩ := h2.one (by kernel_rfl)
  obtain ⟨wv, e0, _⟩ := rd_int (k := .i64) (by kernel_rfl) h0
  obtain ⟨n, e1, _⟩ := rd_int (k := .i64) (by kernel_rfl) h1
  injection e0 with e0
  subst e0
  injection e1 with e1
  subst e1
  obtain ⟨A, l, c, rfl, _, _, hl, _⟩ := rows_rd (z := 7) path_rd h2
  have hs := St.start (w := W) (φ := fun w => Row w A (l.flatMap pp)) fun w' hw => hl.same hw
  exact bounds_ok hs (RdIn.rows .head) fun W' k => ⟨rfl, k.kp⟩

set_option maxRecDepth 100000 in
theorem lifted_PlanBounds (os : Os) (started : os.Started) (H : Type) (enc : TypeId × Value → H) :
    ReturnsInHanded {} Try.checked os 12 .any (Rows.planBoundsSpec.pre6 enc Try.prog Try.f12 Rows.planBoundsRow.domain false) (Rows.planBoundsSpec.post enc Try.prog Try.f12 false true false false) :=
  law_lift (C := Try.checked) (bt := 4) (by kernel_rfl) started (by kernel_rfl) Try.func12 (by kernel_rfl) (by kernel_rfl) (by kernel_rfl) (by kernel_rfl) rfl
    (ChangeSpec.witness6 (enc := enc) (C := Try.checked) false ⟨#[], #[.int .i64 0, .int .i64 0, .slice none 0 0], []⟩ 8 (by kernel_rfl) (by kernel_rfl) (by kernel_rfl) (by kernel_rfl))
    (fun ds hd => by
      match ds, hd with
      | [d0, d1, d2], _ => rfl)
    walk_PlanBounds

set_option maxRecDepth 100000 in
theorem PlanBounds_holds : Rows.PlanBoundsSaid :=
  OpenClaim.holds_of_wide 12 Try.f12 rfl rfl rfl rfl rfl rfl rfl ⟨rfl, rfl, rfl, rfl, rfl⟩ rfl rfl rfl rfl rfl (by kernel_rfl) Try.func12 (by kernel_rfl)
    (of_decide_eq_true (by kernel_rfl)) (by unfold Func.isWrapper; first | (rw [if_pos (by decide +kernel)]; kernel_rfl) | (rw [if_neg (by decide +kernel)]; exact ⟨rfl, rfl⟩))
    (fun os started H enc _ => lifted_PlanBounds os started H enc)
#print axioms PlanBounds_holds
end Go.Proofs.Ytggajodoaooafaa
