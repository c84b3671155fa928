/- AttackMakes: for every input the law returns true, and each argument reads behind the call as it read before. No condition. -/
import Derived.Test.YtggajodoaooafaaAttackLaw
import Derived.Test.YtggajodoaooafaaBrRow
import Derived.Test.YtggajodoaooafaaRows
set_option linter.unusedVariables false
namespace Go.Proofs.Ytggajodoaooafaa
open Go Go.Br

def what_rd_wf (W : World) (x : Wt) : Prop := (-9223372036854775808 ≤ x.kind ∧ x.kind ≤ 9223372036854775807) ∧ (0 ≤ x.aimLocal ∧ x.aimLocal ≤ 65535) ∧ (0 ≤ x.aimRemote ∧ x.aimRemote ≤ 65535) ∧ (0 ≤ x.seq ∧ x.seq ≤ 4294967295) ∧ (0 ≤ x.ack ∧ x.ack ≤ 4294967295) ∧ (0 ≤ x.step ∧ x.step ≤ 4294967295) ∧ (-9223372036854775808 ≤ x.many ∧ x.many ≤ 9223372036854775807)
theorem what_rd {W : World} {f : Nat} {es : List Value} (h : RdT PG W f 49 es) : ∃ x : Wt, es = wt x ∧ what_rd_wf W x := by
  obtain ⟨c2, _, h3⟩ := rd_field (i := 0) (off := 0) (ft := 45) (z := 7) (z' := 1) (by kernel_rfl) (by kernel_rfl) (by kernel_rfl) h
  obtain ⟨c4, _, h5⟩ := rd_field (i := 1) (off := 1) (ft := 47) (z := 7) (z' := 2) (by kernel_rfl) (by kernel_rfl) (by kernel_rfl) h
  obtain ⟨c6, _, h7⟩ := rd_field (i := 2) (off := 3) (ft := 26) (z := 7) (z' := 1) (by kernel_rfl) (by kernel_rfl) (by kernel_rfl) h
  obtain ⟨c8, _, h9⟩ := rd_field (i := 3) (off := 4) (ft := 26) (z := 7) (z' := 1) (by kernel_rfl) (by kernel_rfl) (by kernel_rfl) h
  obtain ⟨c10, _, h11⟩ := rd_field (i := 4) (off := 5) (ft := 26) (z := 7) (z' := 1) (by kernel_rfl) (by kernel_rfl) (by kernel_rfl) h
  obtain ⟨c12, _, h13⟩ := rd_field (i := 5) (off := 6) (ft := 3) (z := 7) (z' := 1) (by kernel_rfl) (by kernel_rfl) (by kernel_rfl) h
  obtain ⟨xq14, eq14, wq14⟩ := rd_int (k := .i64) (by kernel_rfl) h3
  have vq14 : -9223372036854775808 ≤ xq14 ∧ xq14 ≤ 9223372036854775807 := by simp [Lit.wf, IntKind.min, IntKind.max, IntKind.signed, IntKind.bits] at wq14; omega
  obtain ⟨c16, _, h17⟩ := rd_field (i := 0) (off := 0) (ft := 22) (z := 2) (z' := 1) (by kernel_rfl) (by kernel_rfl) (by kernel_rfl) h5
  obtain ⟨c18, _, h19⟩ := rd_field (i := 1) (off := 1) (ft := 22) (z := 2) (z' := 1) (by kernel_rfl) (by kernel_rfl) (by kernel_rfl) h5
  obtain ⟨xq20, eq20, wq20⟩ := rd_int (k := .u16) (by kernel_rfl) h17
  have vq20 : 0 ≤ xq20 ∧ xq20 ≤ 65535 := by simp [Lit.wf, IntKind.min, IntKind.max, IntKind.signed, IntKind.bits] at wq20; omega
  obtain ⟨xq21, eq21, wq21⟩ := rd_int (k := .u16) (by kernel_rfl) h19
  have vq21 : 0 ≤ xq21 ∧ xq21 ≤ 65535 := by simp [Lit.wf, IntKind.min, IntKind.max, IntKind.signed, IntKind.bits] at wq21; omega
  obtain ⟨xq22, eq22, wq22⟩ := rd_int (k := .u32) (by kernel_rfl) h7
  have vq22 : 0 ≤ xq22 ∧ xq22 ≤ 4294967295 := by simp [Lit.wf, IntKind.min, IntKind.max, IntKind.signed, IntKind.bits] at wq22; omega
  obtain ⟨xq23, eq23, wq23⟩ := rd_int (k := .u32) (by kernel_rfl) h9
  have vq23 : 0 ≤ xq23 ∧ xq23 ≤ 4294967295 := by simp [Lit.wf, IntKind.min, IntKind.max, IntKind.signed, IntKind.bits] at wq23; omega
  obtain ⟨xq24, eq24, wq24⟩ := rd_int (k := .u32) (by kernel_rfl) h11
  have vq24 : 0 ≤ xq24 ∧ xq24 ≤ 4294967295 := by simp [Lit.wf, IntKind.min, IntKind.max, IntKind.signed, IntKind.bits] at wq24; omega
  obtain ⟨xq25, eq25, wq25⟩ := rd_int (k := .i64) (by kernel_rfl) h13
  have vq25 : -9223372036854775808 ≤ xq25 ∧ xq25 ≤ 9223372036854775807 := by simp [Lit.wf, IntKind.min, IntKind.max, IntKind.signed, IntKind.bits] at wq25; omega
  match es, c2 with
  | [u0, u1, u2, u3, u4, u5, u6], _ =>
    simp at eq14 eq20 eq21 eq22 eq23 eq24 eq25
    subst eq14; subst eq20; subst eq21; subst eq22; subst eq23; subst eq24; subst eq25
    exact ⟨⟨xq14, xq20, xq21, xq22, xq23, xq24, xq25⟩, rfl, ⟨vq14, vq20, vq21, vq22, vq23, vq24, vq25⟩⟩
theorem walk_AttackMakes (W : World) (args : List Value) (h : ArgsOk Try.prog W Try.f4.params.toList args) : CALL Try.prog 4 args W fun v W' => v = .bool true ∧ Kp [] W W' := by
  have h' : ArgsOk PG W [49, 30] args := h
  obtain ⟨v0, r0, rfl, h0, h'⟩ := h'.cons
  obtain ⟨v1, r1, rfl, h1, h'⟩ := h'.cons
  obtain rfl := h'.nil
  obtain ⟨x, rfl, hx⟩ := agg_rd what_rd h0
  obtain ⟨f1, h1⟩ := h1.one (by kernel_rfl)
  obtain ⟨A, n, C, bs, e, hC, _, rfl, hl⟩ := rd_bytes (e := 5) (by kernel_rfl) (by kernel_rfl) (by kernel_rfl) h1
  injection e with e
  subst e
  obtain ⟨_, _, _, s1, s2, _, _⟩ := hx
  have hs := St.start (w := W) (φ := fun w => Row w A (bvs bs)) fun w' hw => hl.same hw
  exact makes_ok hs (RdIn.rows .head) hC ⟨by omega, by omega⟩ ⟨by omega, by omega⟩ fun W' k => ⟨rfl, k.kp⟩

set_option maxRecDepth 100000 in
theorem lifted_AttackMakes (os : Os) (started : os.Started) (H : Type) (enc : TypeId × Value → H) :
    ReturnsInHanded {} Try.checked os 4 .any (Rows.attackMakesSpec.pre6 enc Try.prog Try.f4 Rows.attackMakesRow.domain false) (Rows.attackMakesSpec.post enc Try.prog Try.f4 false true false false) :=
  law_lift (C := Try.checked) (bt := 4) (by kernel_rfl) started (by kernel_rfl) Try.func4 (by kernel_rfl) (by kernel_rfl) (by kernel_rfl) (by kernel_rfl) rfl
    (ChangeSpec.witness6 (enc := enc) (C := Try.checked) false ⟨#[], #[.agg #[.int .i64 0, .int .u16 0, .int .u16 0, .int .u32 0, .int .u32 0, .int .u32 0, .int .i64 0], .slice none 0 0], []⟩ 8 (by kernel_rfl) (by kernel_rfl) (by kernel_rfl) (by kernel_rfl))
    (fun ds hd => by
      match ds, hd with
      | [d0, d1], _ => rfl)
    walk_AttackMakes

set_option maxRecDepth 100000 in
theorem AttackMakes_holds : Rows.AttackMakesSaid :=
  OpenClaim.holds_of_wide 4 Try.f4 rfl rfl rfl rfl rfl rfl rfl ⟨rfl, rfl, rfl, rfl, rfl⟩ rfl rfl rfl rfl rfl (by kernel_rfl) Try.func4 (by kernel_rfl)
    (of_decide_eq_true (by kernel_rfl)) (by unfold Func.isWrapper; first | (rw [if_pos (by decide +kernel)]; kernel_rfl) | (rw [if_neg (by decide +kernel)]; exact ⟨rfl, rfl⟩))
    (fun os started H enc _ => lifted_AttackMakes os started H enc)
#print axioms AttackMakes_holds
end Go.Proofs.Ytggajodoaooafaa
