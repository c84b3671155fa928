/- AttackForetells: for every input the law returns true, and each argument reads behind the call as it read before. No condition. -/
import Derived.Test.YtggajodoaooafaaAttackTell
import Derived.Test.YtggajodoaooafaaBrRow
import Derived.Test.YtggajodoaooafaaRows
set_option linter.unusedVariables false
namespace Go.Proofs.Ytggajodoaooafaa
open Go Go.Br

def stat_rd_wf (W : World) (x : Stt) : Prop := (-9223372036854775808 ≤ x.endsPath ∧ x.endsPath ≤ 9223372036854775807) ∧ (0 ≤ x.endsLocal ∧ x.endsLocal ≤ 65535) ∧ (0 ≤ x.endsRemote ∧ x.endsRemote ≤ 65535) ∧ (-9223372036854775808 ≤ x.id ∧ x.id ≤ 9223372036854775807) ∧ (-9223372036854775808 ≤ x.state ∧ x.state ≤ 9223372036854775807) ∧ (0 ≤ x.first ∧ x.first ≤ 4294967295) ∧ (0 ≤ x.acked ∧ x.acked ≤ 4294967295) ∧ (0 ≤ x.next ∧ x.next ≤ 4294967295) ∧ (0 ≤ x.wait ∧ x.wait ≤ 4294967295) ∧ (-9223372036854775808 ≤ x.points ∧ x.points ≤ 9223372036854775807) ∧ (-9223372036854775808 ≤ x.tokens ∧ x.tokens ≤ 9223372036854775807) ∧ (-9223372036854775808 ≤ x.patience ∧ x.patience ≤ 9223372036854775807) ∧ (-9223372036854775808 ≤ x.backs ∧ x.backs ≤ 9223372036854775807) ∧ (-9223372036854775808 ≤ x.size ∧ x.size ≤ 9223372036854775807) ∧ (-9223372036854775808 ≤ x.under ∧ x.under ≤ 9223372036854775807)
theorem stat_rd {W : World} {f : Nat} {es : List Value} (h : RdT PG W f 28 es) : ∃ x : Stt, es = stt x ∧ stat_rd_wf W x := by
  obtain ⟨c2, _, h3⟩ := rd_field (i := 0) (off := 0) (ft := 24) (z := 17) (z' := 3) (by kernel_rfl) (by kernel_rfl) (by kernel_rfl) h
  obtain ⟨c4, _, h5⟩ := rd_field (i := 1) (off := 3) (ft := 3) (z := 17) (z' := 1) (by kernel_rfl) (by kernel_rfl) (by kernel_rfl) h
  obtain ⟨c6, _, h7⟩ := rd_field (i := 2) (off := 4) (ft := 25) (z := 17) (z' := 1) (by kernel_rfl) (by kernel_rfl) (by kernel_rfl) h
  obtain ⟨c8, _, h9⟩ := rd_field (i := 3) (off := 5) (ft := 26) (z := 17) (z' := 1) (by kernel_rfl) (by kernel_rfl) (by kernel_rfl) h
  obtain ⟨c10, _, h11⟩ := rd_field (i := 4) (off := 6) (ft := 26) (z := 17) (z' := 1) (by kernel_rfl) (by kernel_rfl) (by kernel_rfl) h
  obtain ⟨c12, _, h13⟩ := rd_field (i := 5) (off := 7) (ft := 26) (z := 17) (z' := 1) (by kernel_rfl) (by kernel_rfl) (by kernel_rfl) h
  obtain ⟨c14, _, h15⟩ := rd_field (i := 6) (off := 8) (ft := 26) (z := 17) (z' := 1) (by kernel_rfl) (by kernel_rfl) (by kernel_rfl) h
  obtain ⟨c16, _, h17⟩ := rd_field (i := 7) (off := 9) (ft := 4) (z := 17) (z' := 1) (by kernel_rfl) (by kernel_rfl) (by kernel_rfl) h
  obtain ⟨c18, _, h19⟩ := rd_field (i := 8) (off := 10) (ft := 4) (z := 17) (z' := 1) (by kernel_rfl) (by kernel_rfl) (by kernel_rfl) h
  obtain ⟨c20, _, h21⟩ := rd_field (i := 9) (off := 11) (ft := 3) (z := 17) (z' := 1) (by kernel_rfl) (by kernel_rfl) (by kernel_rfl) h
  obtain ⟨c22, _, h23⟩ := rd_field (i := 10) (off := 12) (ft := 3) (z := 17) (z' := 1) (by kernel_rfl) (by kernel_rfl) (by kernel_rfl) h
  obtain ⟨c24, _, h25⟩ := rd_field (i := 11) (off := 13) (ft := 3) (z := 17) (z' := 1) (by kernel_rfl) (by kernel_rfl) (by kernel_rfl) h
  obtain ⟨c26, _, h27⟩ := rd_field (i := 12) (off := 14) (ft := 3) (z := 17) (z' := 1) (by kernel_rfl) (by kernel_rfl) (by kernel_rfl) h
  obtain ⟨c28, _, h29⟩ := rd_field (i := 13) (off := 15) (ft := 3) (z := 17) (z' := 1) (by kernel_rfl) (by kernel_rfl) (by kernel_rfl) h
  obtain ⟨c30, _, h31⟩ := rd_field (i := 14) (off := 16) (ft := 3) (z := 17) (z' := 1) (by kernel_rfl) (by kernel_rfl) (by kernel_rfl) h
  obtain ⟨c33, _, h34⟩ := rd_field (i := 0) (off := 0) (ft := 3) (z := 3) (z' := 1) (by kernel_rfl) (by kernel_rfl) (by kernel_rfl) h3
  obtain ⟨c35, _, h36⟩ := rd_field (i := 1) (off := 1) (ft := 22) (z := 3) (z' := 1) (by kernel_rfl) (by kernel_rfl) (by kernel_rfl) h3
  obtain ⟨c37, _, h38⟩ := rd_field (i := 2) (off := 2) (ft := 22) (z := 3) (z' := 1) (by kernel_rfl) (by kernel_rfl) (by kernel_rfl) h3
  obtain ⟨xq39, eq39, wq39⟩ := rd_int (k := .i64) (by kernel_rfl) h34
  have vq39 : -9223372036854775808 ≤ xq39 ∧ xq39 ≤ 9223372036854775807 := by simp [Lit.wf, IntKind.min, IntKind.max, IntKind.signed, IntKind.bits] at wq39; omega
  obtain ⟨xq40, eq40, wq40⟩ := rd_int (k := .u16) (by kernel_rfl) h36
  have vq40 : 0 ≤ xq40 ∧ xq40 ≤ 65535 := by simp [Lit.wf, IntKind.min, IntKind.max, IntKind.signed, IntKind.bits] at wq40; omega
  obtain ⟨xq41, eq41, wq41⟩ := rd_int (k := .u16) (by kernel_rfl) h38
  have vq41 : 0 ≤ xq41 ∧ xq41 ≤ 65535 := by simp [Lit.wf, IntKind.min, IntKind.max, IntKind.signed, IntKind.bits] at wq41; omega
  obtain ⟨xq42, eq42, wq42⟩ := rd_int (k := .i64) (by kernel_rfl) h5
  have vq42 : -9223372036854775808 ≤ xq42 ∧ xq42 ≤ 9223372036854775807 := by simp [Lit.wf, IntKind.min, IntKind.max, IntKind.signed, IntKind.bits] at wq42; omega
  obtain ⟨xq43, eq43, wq43⟩ := rd_int (k := .i64) (by kernel_rfl) h7
  have vq43 : -9223372036854775808 ≤ xq43 ∧ xq43 ≤ 9223372036854775807 := by simp [Lit.wf, IntKind.min, IntKind.max, IntKind.signed, IntKind.bits] at wq43; omega
  obtain ⟨xq44, eq44, wq44⟩ := rd_int (k := .u32) (by kernel_rfl) h9
  have vq44 : 0 ≤ xq44 ∧ xq44 ≤ 4294967295 := by simp [Lit.wf, IntKind.min, IntKind.max, IntKind.signed, IntKind.bits] at wq44; omega
  obtain ⟨xq45, eq45, wq45⟩ := rd_int (k := .u32) (by kernel_rfl) h11
  have vq45 : 0 ≤ xq45 ∧ xq45 ≤ 4294967295 := by simp [Lit.wf, IntKind.min, IntKind.max, IntKind.signed, IntKind.bits] at wq45; omega
  obtain ⟨xq46, eq46, wq46⟩ := rd_int (k := .u32) (by kernel_rfl) h13
  have vq46 : 0 ≤ xq46 ∧ xq46 ≤ 4294967295 := by simp [Lit.wf, IntKind.min, IntKind.max, IntKind.signed, IntKind.bits] at wq46; omega
  obtain ⟨xq47, eq47, wq47⟩ := rd_int (k := .u32) (by kernel_rfl) h15
  have vq47 : 0 ≤ xq47 ∧ xq47 ≤ 4294967295 := by simp [Lit.wf, IntKind.min, IntKind.max, IntKind.signed, IntKind.bits] at wq47; omega
  obtain ⟨xq48, eq48⟩ := rd_bool (by kernel_rfl) h17
  obtain ⟨xq49, eq49⟩ := rd_bool (by kernel_rfl) h19
  obtain ⟨xq50, eq50, wq50⟩ := rd_int (k := .i64) (by kernel_rfl) h21
  have vq50 : -9223372036854775808 ≤ xq50 ∧ xq50 ≤ 9223372036854775807 := by simp [Lit.wf, IntKind.min, IntKind.max, IntKind.signed, IntKind.bits] at wq50; omega
  obtain ⟨xq51, eq51, wq51⟩ := rd_int (k := .i64) (by kernel_rfl) h23
  have vq51 : -9223372036854775808 ≤ xq51 ∧ xq51 ≤ 9223372036854775807 := by simp [Lit.wf, IntKind.min, IntKind.max, IntKind.signed, IntKind.bits] at wq51; omega
  obtain ⟨xq52, eq52, wq52⟩ := rd_int (k := .i64) (by kernel_rfl) h25
  have vq52 : -9223372036854775808 ≤ xq52 ∧ xq52 ≤ 9223372036854775807 := by simp [Lit.wf, IntKind.min, IntKind.max, IntKind.signed, IntKind.bits] at wq52; omega
  obtain ⟨xq53, eq53, wq53⟩ := rd_int (k := .i64) (by kernel_rfl) h27
  have vq53 : -9223372036854775808 ≤ xq53 ∧ xq53 ≤ 9223372036854775807 := by simp [Lit.wf, IntKind.min, IntKind.max, IntKind.signed, IntKind.bits] at wq53; omega
  obtain ⟨xq54, eq54, wq54⟩ := rd_int (k := .i64) (by kernel_rfl) h29
  have vq54 : -9223372036854775808 ≤ xq54 ∧ xq54 ≤ 9223372036854775807 := by simp [Lit.wf, IntKind.min, IntKind.max, IntKind.signed, IntKind.bits] at wq54; omega
  obtain ⟨xq55, eq55, wq55⟩ := rd_int (k := .i64) (by kernel_rfl) h31
  have vq55 : -9223372036854775808 ≤ xq55 ∧ xq55 ≤ 9223372036854775807 := by simp [Lit.wf, IntKind.min, IntKind.max, IntKind.signed, IntKind.bits] at wq55; omega
  match es, c2 with
  | [u0, u1, u2, u3, u4, u5, u6, u7, u8, u9, u10, u11, u12, u13, u14, u15, u16], _ =>
    simp at eq39 eq40 eq41 eq42 eq43 eq44 eq45 eq46 eq47 eq48 eq49 eq50 eq51 eq52 eq53 eq54 eq55
    subst eq39; subst eq40; subst eq41; subst eq42; subst eq43; subst eq44; subst eq45; subst eq46; subst eq47; subst eq48; subst eq49; subst eq50; subst eq51; subst eq52; subst eq53; subst eq54; subst eq55
    exact ⟨⟨xq39, xq40, xq41, xq42, xq43, xq44, xq45, xq46, xq47, xq48, xq49, xq50, xq51, xq52, xq53, xq54, xq55⟩, rfl, ⟨vq39, vq40, vq41, vq42, vq43, vq44, vq45, vq46, vq47, vq50, vq51, vq52, vq53, vq54, vq55⟩⟩
def opt_rd_wf (W : World) (x : Opx) : Prop := (0 ≤ x.kind ∧ x.kind ≤ 255) ∧ (x.bodys.length ≤ x.bodyC ∧ x.bodyC ≤ maxLen ∧ Row W x.body (bvs x.bodys))
theorem opt_rd {W : World} {f : Nat} {es : List Value} (h : RdT PG W f 138 es) : ∃ x : Opx, es = opx x ∧ opt_rd_wf W x := by
  obtain ⟨c2, _, h3⟩ := rd_field (i := 0) (off := 0) (ft := 5) (z := 2) (z' := 1) (by kernel_rfl) (by kernel_rfl) (by kernel_rfl) h
  obtain ⟨c4, _, h5⟩ := rd_field (i := 1) (off := 1) (ft := 30) (z := 2) (z' := 1) (by kernel_rfl) (by kernel_rfl) (by kernel_rfl) h
  obtain ⟨xq6, eq6, wq6⟩ := rd_int (k := .u8) (by kernel_rfl) h3
  have vq6 : 0 ≤ xq6 ∧ xq6 ≤ 255 := by simp [Lit.wf, IntKind.min, IntKind.max, IntKind.signed, IntKind.bits] at wq6; omega
  obtain ⟨Aq7, Nq7, Cq7, xq7, eq7, lq7, mq7, nq7, rq7⟩ := rd_bytes (e := 5) (by kernel_rfl) (by kernel_rfl) (by kernel_rfl) h5
  subst nq7
  match es, c2 with
  | [u0, u1], _ =>
    simp at eq6 eq7
    subst eq6; subst eq7
    exact ⟨⟨xq6, Aq7, Cq7, xq7⟩, rfl, ⟨vq6, ⟨lq7, mq7, rq7⟩⟩⟩
def seg_wf (W : World) (s : Sg) : Prop := SgOk s ∧ SgAt s W
theorem seg_rd {W : World} {f : Nat} {es : List Value} (h : RdT PG W f 32 es) : ∃ s : Sg, es = sgc s ∧ seg_wf W s := by
  obtain ⟨c0, f0, h0⟩ := rd_field (i := 0) (off := 0) (ft := 22) (z := 7) (z' := 1) (by kernel_rfl) (by kernel_rfl) (by kernel_rfl) h
  obtain ⟨_, f1, h1⟩ := rd_field (i := 1) (off := 1) (ft := 22) (z := 7) (z' := 1) (by kernel_rfl) (by kernel_rfl) (by kernel_rfl) h
  obtain ⟨_, f2, h2⟩ := rd_field (i := 2) (off := 2) (ft := 26) (z := 7) (z' := 1) (by kernel_rfl) (by kernel_rfl) (by kernel_rfl) h
  obtain ⟨_, f3, h3⟩ := rd_field (i := 3) (off := 3) (ft := 26) (z := 7) (z' := 1) (by kernel_rfl) (by kernel_rfl) (by kernel_rfl) h
  obtain ⟨_, f4, h4⟩ := rd_field (i := 4) (off := 4) (ft := 5) (z := 7) (z' := 1) (by kernel_rfl) (by kernel_rfl) (by kernel_rfl) h
  obtain ⟨_, f5, h5⟩ := rd_field (i := 5) (off := 5) (ft := 29) (z := 7) (z' := 1) (by kernel_rfl) (by kernel_rfl) (by kernel_rfl) h
  obtain ⟨_, f6, h6⟩ := rd_field (i := 6) (off := 6) (ft := 30) (z := 7) (z' := 1) (by kernel_rfl) (by kernel_rfl) (by kernel_rfl) h
  match es, c0 with
  | [u0, u1, u2, u3, u4, u5, u6], _ =>
    obtain ⟨x0, e0, w0⟩ := rd_int (k := .u16) (by kernel_rfl) h0
    obtain ⟨x1, e1, w1⟩ := rd_int (k := .u16) (by kernel_rfl) h1
    obtain ⟨x2, e2, w2⟩ := rd_int (k := .u32) (by kernel_rfl) h2
    obtain ⟨x3, e3, w3⟩ := rd_int (k := .u32) (by kernel_rfl) h3
    obtain ⟨x4, e4, w4⟩ := rd_int (k := .u8) (by kernel_rfl) h4
    obtain ⟨oA, os, oC, e5, _, _, r5, q5⟩ := rows_rd (z := 2) (v := u5) opt_rd h5
    obtain ⟨dA, dN, dC, ds, e6, _, _, n6, r6⟩ := rd_bytes (e := 5) (by kernel_rfl) (by kernel_rfl) (by kernel_rfl) h6
    subst n6
    simp at e0 e1 e2 e3 e4 e6
    subst e0; subst e1; subst e2; subst e3; subst e4; subst e5; subst e6
    simp [Lit.wf, IntKind.min, IntKind.max, IntKind.signed, IntKind.bits] at w2 w3 w4
    exact ⟨⟨x0, x1, x2, x3, x4, oA, oC, os, dA, dC, ds⟩, rfl, (by simp only [SgOk, U32]; omega), r5, fun o ho => (q5 o ho).2.2.2, r6⟩
theorem SgAt.same {s : Sg} {w w' : World} (h : SgAt s w) (hw : ∀ i, i < w.heap.size → w'.heap[i]? = w.heap[i]?) : SgAt s w' := ⟨h.1.same hw, fun o ho => (h.2.1 o ho).same hw, h.2.2.same hw⟩
theorem walk_AttackForetells (W : World) (args : List Value) (h : ArgsOk Try.prog W Try.f3.params.toList args) : CALL Try.prog 3 args W fun v W' => v = .bool true ∧ Kp [] W W' := by
  have h' : ArgsOk PG W [28, 28, 32] args := h
  obtain ⟨v0, r0, rfl, h0, h'⟩ := h'.cons
  obtain ⟨v1, r1, rfl, h1, h'⟩ := h'.cons
  obtain ⟨v2, r2, rfl, h2, h'⟩ := h'.cons
  obtain rfl := h'.nil
  obtain ⟨a, rfl, ha⟩ := agg_rd stat_rd h0
  obtain ⟨b, rfl, hb⟩ := agg_rd stat_rd h1
  obtain ⟨s, rfl, hs⟩ := agg_rd seg_rd h2
  have hst := St.start (w := W) (φ := SgAt s) fun w' hw => SgAt.same hs.2 hw
  unfold stat_rd_wf at ha
  exact foretells_ok hst (by simp only [NmOk, numOf, U32]; omega) hs.1 (SgIn.here .head) fun W' k => ⟨rfl, k.kp⟩

set_option maxRecDepth 100000 in
theorem lifted_AttackForetells (os : Os) (started : os.Started) (H : Type) (enc : TypeId × Value → H) :
    ReturnsInHanded {} Try.checked os 3 .any (Rows.attackForetellsSpec.pre6 enc Try.prog Try.f3 Rows.attackForetellsRow.domain false) (Rows.attackForetellsSpec.post enc Try.prog Try.f3 false true false false) :=
  law_lift (C := Try.checked) (bt := 4) (by kernel_rfl) started (by kernel_rfl) Try.func3 (by kernel_rfl) (by kernel_rfl) (by kernel_rfl) (by kernel_rfl) rfl
    (ChangeSpec.witness6 (enc := enc) (C := Try.checked) false ⟨#[], #[.agg #[.int .i64 0, .int .u16 0, .int .u16 0, .int .i64 0, .int .i64 0, .int .u32 0, .int .u32 0, .int .u32 0, .int .u32 0, .bool false, .bool false, .int .i64 0, .int .i64 0, .int .i64 0, .int .i64 0, .int .i64 0, .int .i64 0], .agg #[.int .i64 0, .int .u16 0, .int .u16 0, .int .i64 0, .int .i64 0, .int .u32 0, .int .u32 0, .int .u32 0, .int .u32 0, .bool false, .bool false, .int .i64 0, .int .i64 0, .int .i64 0, .int .i64 0, .int .i64 0, .int .i64 0], .agg #[.int .u16 0, .int .u16 0, .int .u32 0, .int .u32 0, .int .u8 0, .slice none 0 0, .slice none 0 0]], []⟩ 8 (by kernel_rfl) (by kernel_rfl) (by kernel_rfl) (by kernel_rfl))
    (fun ds hd => by
      match ds, hd with
      | [d0, d1, d2], _ => rfl)
    walk_AttackForetells

set_option maxRecDepth 100000 in
theorem AttackForetells_holds : Rows.AttackForetellsSaid :=
  OpenClaim.holds_of_wide 3 Try.f3 rfl rfl rfl rfl rfl rfl rfl ⟨rfl, rfl, rfl, rfl, rfl⟩ rfl rfl rfl rfl rfl (by kernel_rfl) Try.func3 (by kernel_rfl)
    (of_decide_eq_true (by kernel_rfl)) (by unfold Func.isWrapper; first | (rw [if_pos (by decide +kernel)]; kernel_rfl) | (rw [if_neg (by decide +kernel)]; exact ⟨rfl, rfl⟩))
    (fun os started H enc _ => lifted_AttackForetells os started H enc)
#print axioms AttackForetells_holds
end Go.Proofs.Ytggajodoaooafaa
