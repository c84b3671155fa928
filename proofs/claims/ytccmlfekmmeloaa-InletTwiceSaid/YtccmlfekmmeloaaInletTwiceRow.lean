/- InletTwice: for every input the law returns true, and each argument reads behind the call as it read before. No condition. -/
import Derived.Test.YtccmlfekmmeloaaInletTwiceLaw
import Derived.Test.YtccmlfekmmeloaaBrRow
import Derived.Test.YtccmlfekmmeloaaRows
set_option linter.unusedVariables false
namespace Go.Proofs.Ytccmlfekmmeloaa
open Go Go.Br

def op_rd_wf (W : World) (x : Op18) : Prop := (-9223372036854775808 ≤ x.kind ∧ x.kind ≤ 9223372036854775807) ∧ (-9223372036854775808 ≤ x.n ∧ x.n ≤ 9223372036854775807) ∧ (0 ≤ x.pos ∧ x.pos ≤ 18446744073709551615) ∧ (x.bs.length ≤ x.bC ∧ x.bC ≤ maxLen ∧ Row W x.b (bvs x.bs))
theorem op_rd {W : World} {f : Nat} {es : List Value} (h : RdT PG W f 69 es) : ∃ x : Op18, es = op18 x ∧ op_rd_wf W x := by
  obtain ⟨c2, _, h3⟩ := rd_field (i := 0) (off := 0) (ft := 3) (z := 5) (z' := 1) (by kernel_rfl) (by kernel_rfl) (by kernel_rfl) h
  obtain ⟨c4, _, h5⟩ := rd_field (i := 1) (off := 1) (ft := 3) (z := 5) (z' := 1) (by kernel_rfl) (by kernel_rfl) (by kernel_rfl) h
  obtain ⟨c6, _, h7⟩ := rd_field (i := 2) (off := 2) (ft := 42) (z := 5) (z' := 1) (by kernel_rfl) (by kernel_rfl) (by kernel_rfl) h
  obtain ⟨c8, _, h9⟩ := rd_field (i := 3) (off := 3) (ft := 4) (z := 5) (z' := 1) (by kernel_rfl) (by kernel_rfl) (by kernel_rfl) h
  obtain ⟨c10, _, h11⟩ := rd_field (i := 4) (off := 4) (ft := 58) (z := 5) (z' := 1) (by kernel_rfl) (by kernel_rfl) (by kernel_rfl) h
  obtain ⟨xq12, eq12, wq12⟩ := rd_int (k := .i64) (by kernel_rfl) h3
  have vq12 : -9223372036854775808 ≤ xq12 ∧ xq12 ≤ 9223372036854775807 := by simp [Lit.wf, IntKind.min, IntKind.max, IntKind.signed, IntKind.bits] at wq12; omega
  obtain ⟨xq13, eq13, wq13⟩ := rd_int (k := .i64) (by kernel_rfl) h5
  have vq13 : -9223372036854775808 ≤ xq13 ∧ xq13 ≤ 9223372036854775807 := by simp [Lit.wf, IntKind.min, IntKind.max, IntKind.signed, IntKind.bits] at wq13; omega
  obtain ⟨xq14, eq14, wq14⟩ := rd_int (k := .u64) (by kernel_rfl) h7
  have vq14 : 0 ≤ xq14 ∧ xq14 ≤ 18446744073709551615 := by simp [Lit.wf, IntKind.min, IntKind.max, IntKind.signed, IntKind.bits] at wq14; omega
  obtain ⟨xq15, eq15⟩ := rd_bool (by kernel_rfl) h9
  obtain ⟨Aq16, Nq16, Cq16, xq16, eq16, lq16, mq16, nq16, rq16⟩ := rd_bytes (e := 5) (by kernel_rfl) (by kernel_rfl) (by kernel_rfl) h11
  subst nq16
  match es, c2 with
  | [u0, u1, u2, u3, u4], _ =>
    simp at eq12 eq13 eq14 eq15 eq16
    subst eq12; subst eq13; subst eq14; subst eq15; subst eq16
    exact ⟨⟨xq12, xq13, xq14, xq15, Aq16, Cq16, xq16⟩, rfl, ⟨vq12, vq13, vq14, ⟨lq16, mq16, rq16⟩⟩⟩
theorem walk_InletTwice (W : World) (args : List Value) (h : ArgsOk Try.prog W Try.f6.params.toList args) : CALL Try.prog 6 args W fun v W' => v = .bool true ∧ Kp [] W W' := by
  have h' : ArgsOk PG W [3, 59, 69] args := h
  obtain ⟨v0, r0, rfl, h0, h'⟩ := h'.cons
  obtain ⟨v1, r1, rfl, h1, h'⟩ := h'.cons
  obtain ⟨v2, r2, rfl, h2, h'⟩ := h'.cons
  obtain rfl := h'.nil
  obtain ⟨f0, h0⟩ := h0.one (by kernel_rfl)
  obtain ⟨f1, h1⟩ := h1.one (by kernel_rfl)
  obtain ⟨x, e, _⟩ := rd_int (k := .i64) (by kernel_rfl) h0
  injection e with e
  subst e
  obtain ⟨A, l, c, rfl, _, _, hl, hw⟩ := rows_rd (z := 5) op_rd h1
  obtain ⟨o, rfl, ho⟩ := agg_rd op_rd h2
  unfold op_rd_wf at hw ho
  have hs := St.start (w := W) (φ := fun w => Row w A (l.flatMap op18) ∧ (∀ x ∈ l, Row w x.b (bvs x.bs)) ∧ Row w o.b (bvs o.bs)) fun w' hw' => ⟨hl.same hw', fun x hx => ((hw x hx).2.2.2.2.2).same hw', (ho.2.2.2.2.2).same hw'⟩
  have g1 : RdIn [Br.ro fun w => Row w A (l.flatMap op18) ∧ (∀ x ∈ l, Row w x.b (bvs x.bs)) ∧ Row w o.b (bvs o.bs)] A (l.flatMap op18) := fun c w h => (h.ro .head).1
  have g2 : ∀ x ∈ l, RdIn [Br.ro fun w => Row w A (l.flatMap op18) ∧ (∀ x ∈ l, Row w x.b (bvs x.bs)) ∧ Row w o.b (bvs o.bs)] x.b (bvs x.bs) := fun x hx c w h => (h.ro .head).2.1 x hx
  have g3 : RdIn [Br.ro fun w => Row w A (l.flatMap op18) ∧ (∀ x ∈ l, Row w x.b (bvs x.bs)) ∧ Row w o.b (bvs o.bs)] o.b (bvs o.bs) := fun c w h => (h.ro .head).2.2
  have ok : ∀ x : Op18, op_rd_wf W x → Op18Ok x ∧ x.bs.length ≤ x.bC := fun x hx => by
    unfold op_rd_wf at hx
    unfold Op18Ok
    omega
  exact twice_ok hs g1 (fun x hx => ⟨(ok x (hw x hx)).1, g2 x hx, (ok x (hw x hx)).2⟩) (ok o ho).1 g3 (ok o ho).2 fun W' k => ⟨rfl, k.kp⟩

set_option maxRecDepth 100000 in
theorem lifted_InletTwice (os : Os) (started : os.Started) (H : Type) (enc : TypeId × Value → H) :
    ReturnsInHanded {} Try.checked os 6 .any (Rows.inletTwiceSpec.pre6 enc Try.prog Try.f6 Rows.inletTwiceRow.domain false) (Rows.inletTwiceSpec.post enc Try.prog Try.f6 false true false false) :=
  law_lift (C := Try.checked) (bt := 4) (by kernel_rfl) started (by kernel_rfl) Try.func6 (by kernel_rfl) (by kernel_rfl) (by kernel_rfl) (by kernel_rfl) rfl
    (ChangeSpec.witness6 (enc := enc) (C := Try.checked) false ⟨#[], #[.int .i64 0, .slice none 0 0, .agg #[.int .i64 0, .int .i64 0, .int .u64 0, .bool false, .slice none 0 0]], []⟩ 8 (by kernel_rfl) (by kernel_rfl) (by kernel_rfl) (by kernel_rfl))
    (fun ds hd => by
      match ds, hd with
      | [d0, d1, d2], _ => rfl)
    walk_InletTwice

set_option maxRecDepth 100000 in
theorem InletTwice_holds : Rows.InletTwiceSaid :=
  OpenClaim.holds_of_wide 6 Try.f6 rfl rfl rfl rfl rfl rfl rfl ⟨rfl, rfl, rfl, rfl, rfl⟩ rfl rfl rfl rfl rfl (by kernel_rfl) Try.func6 (by kernel_rfl)
    (of_decide_eq_true (by kernel_rfl)) (by unfold Func.isWrapper; first | (rw [if_pos (by decide +kernel)]; kernel_rfl) | (rw [if_neg (by decide +kernel)]; exact ⟨rfl, rfl⟩))
    (fun os started H enc _ => lifted_InletTwice os started H enc)
#print axioms InletTwice_holds
end Go.Proofs.Ytccmlfekmmeloaa
