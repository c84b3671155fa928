/- AuditFits: for every input the law returns true, and each argument reads behind the call as it read before. No condition. -/
import Derived.Test.YtedgfhklpfmjaaaGreatAuditFitsLaw
import Derived.Test.YtedgfhklpfmjaaaGreatBrRow
import Derived.Test.YtedgfhklpfmjaaaGreatRows
set_option linter.unusedVariables false
namespace Go.Proofs.YtedgfhklpfmjaaaGreat
open Go Go.Br

def ed_rd_wf (W : World) (x : Ed) : Prop := (-9223372036854775808 ≤ x.host ∧ x.host ≤ 9223372036854775807) ∧ (-9223372036854775808 ≤ x.handle ∧ x.handle ≤ 9223372036854775807) ∧ (-9223372036854775808 ≤ x.iState ∧ x.iState ≤ 9223372036854775807) ∧ (-9223372036854775808 ≤ x.iCause ∧ x.iCause ≤ 9223372036854775807) ∧ (-9223372036854775808 ≤ x.iRole ∧ x.iRole ≤ 9223372036854775807) ∧ (0 ≤ x.iIDK0 ∧ x.iIDK0 ≤ 18446744073709551615) ∧ (0 ≤ x.iIDK1 ∧ x.iIDK1 ≤ 18446744073709551615) ∧ (-9223372036854775808 ≤ x.iFirstPath ∧ x.iFirstPath ≤ 9223372036854775807) ∧ (0 ≤ x.iFirstLocal ∧ x.iFirstLocal ≤ 65535) ∧ (0 ≤ x.iFirstRemote ∧ x.iFirstRemote ≤ 65535) ∧ (0 ≤ x.iAccepted ∧ x.iAccepted ≤ 18446744073709551615) ∧ (0 ≤ x.iAcked ∧ x.iAcked ≤ 18446744073709551615) ∧ (0 ≤ x.iCame ∧ x.iCame ≤ 18446744073709551615) ∧ (0 ≤ x.iRead ∧ x.iRead ≤ 18446744073709551615) ∧ (-9223372036854775808 ≤ x.iSilence ∧ x.iSilence ≤ 9223372036854775807) ∧ (-9223372036854775808 ≤ x.iFlows ∧ x.iFlows ≤ 9223372036854775807) ∧ (-9223372036854775808 ≤ x.iUnder ∧ x.iUnder ≤ 9223372036854775807) ∧ (-9223372036854775808 ≤ x.iHeld ∧ x.iHeld ≤ 9223372036854775807)
theorem ed_rd {W : World} {f : Nat} {es : List Value} (h : RdT PG W f 34 es) : ∃ x : Ed, es = ed x ∧ ed_rd_wf W x := by
  obtain ⟨c2, _, h3⟩ := rd_field (i := 0) (off := 0) (ft := 3) (z := 20) (z' := 1) (by kernel_rfl) (by kernel_rfl) (by kernel_rfl) h
  obtain ⟨c4, _, h5⟩ := rd_field (i := 1) (off := 1) (ft := 3) (z := 20) (z' := 1) (by kernel_rfl) (by kernel_rfl) (by kernel_rfl) h
  obtain ⟨c6, _, h7⟩ := rd_field (i := 2) (off := 2) (ft := 32) (z := 20) (z' := 18) (by kernel_rfl) (by kernel_rfl) (by kernel_rfl) h
  obtain ⟨xq8, eq8, wq8⟩ := rd_int (k := .i64) (by kernel_rfl) h3
  have vq8 : -9223372036854775808 ≤ xq8 ∧ xq8 ≤ 9223372036854775807 := by simp [Lit.wf, IntKind.min, IntKind.max, IntKind.signed, IntKind.bits] at wq8; omega
  obtain ⟨xq9, eq9, wq9⟩ := rd_int (k := .i64) (by kernel_rfl) h5
  have vq9 : -9223372036854775808 ≤ xq9 ∧ xq9 ≤ 9223372036854775807 := by simp [Lit.wf, IntKind.min, IntKind.max, IntKind.signed, IntKind.bits] at wq9; omega
  obtain ⟨c11, _, h12⟩ := rd_field (i := 0) (off := 0) (ft := 22) (z := 18) (z' := 1) (by kernel_rfl) (by kernel_rfl) (by kernel_rfl) h7
  obtain ⟨c13, _, h14⟩ := rd_field (i := 1) (off := 1) (ft := 23) (z := 18) (z' := 1) (by kernel_rfl) (by kernel_rfl) (by kernel_rfl) h7
  obtain ⟨c15, _, h16⟩ := rd_field (i := 2) (off := 2) (ft := 24) (z := 18) (z' := 1) (by kernel_rfl) (by kernel_rfl) (by kernel_rfl) h7
  obtain ⟨c17, _, h18⟩ := rd_field (i := 3) (off := 3) (ft := 27) (z := 18) (z' := 2) (by kernel_rfl) (by kernel_rfl) (by kernel_rfl) h7
  obtain ⟨c19, _, h20⟩ := rd_field (i := 4) (off := 5) (ft := 30) (z := 18) (z' := 3) (by kernel_rfl) (by kernel_rfl) (by kernel_rfl) h7
  obtain ⟨c21, _, h22⟩ := rd_field (i := 5) (off := 8) (ft := 25) (z := 18) (z' := 1) (by kernel_rfl) (by kernel_rfl) (by kernel_rfl) h7
  obtain ⟨c23, _, h24⟩ := rd_field (i := 6) (off := 9) (ft := 25) (z := 18) (z' := 1) (by kernel_rfl) (by kernel_rfl) (by kernel_rfl) h7
  obtain ⟨c25, _, h26⟩ := rd_field (i := 7) (off := 10) (ft := 25) (z := 18) (z' := 1) (by kernel_rfl) (by kernel_rfl) (by kernel_rfl) h7
  obtain ⟨c27, _, h28⟩ := rd_field (i := 8) (off := 11) (ft := 25) (z := 18) (z' := 1) (by kernel_rfl) (by kernel_rfl) (by kernel_rfl) h7
  obtain ⟨c29, _, h30⟩ := rd_field (i := 9) (off := 12) (ft := 4) (z := 18) (z' := 1) (by kernel_rfl) (by kernel_rfl) (by kernel_rfl) h7
  obtain ⟨c31, _, h32⟩ := rd_field (i := 10) (off := 13) (ft := 4) (z := 18) (z' := 1) (by kernel_rfl) (by kernel_rfl) (by kernel_rfl) h7
  obtain ⟨c33, _, h34⟩ := rd_field (i := 11) (off := 14) (ft := 3) (z := 18) (z' := 1) (by kernel_rfl) (by kernel_rfl) (by kernel_rfl) h7
  obtain ⟨c35, _, h36⟩ := rd_field (i := 12) (off := 15) (ft := 3) (z := 18) (z' := 1) (by kernel_rfl) (by kernel_rfl) (by kernel_rfl) h7
  obtain ⟨c37, _, h38⟩ := rd_field (i := 13) (off := 16) (ft := 3) (z := 18) (z' := 1) (by kernel_rfl) (by kernel_rfl) (by kernel_rfl) h7
  obtain ⟨c39, _, h40⟩ := rd_field (i := 14) (off := 17) (ft := 3) (z := 18) (z' := 1) (by kernel_rfl) (by kernel_rfl) (by kernel_rfl) h7
  obtain ⟨xq41, eq41, wq41⟩ := rd_int (k := .i64) (by kernel_rfl) h12
  have vq41 : -9223372036854775808 ≤ xq41 ∧ xq41 ≤ 9223372036854775807 := by simp [Lit.wf, IntKind.min, IntKind.max, IntKind.signed, IntKind.bits] at wq41; omega
  obtain ⟨xq42, eq42, wq42⟩ := rd_int (k := .i64) (by kernel_rfl) h14
  have vq42 : -9223372036854775808 ≤ xq42 ∧ xq42 ≤ 9223372036854775807 := by simp [Lit.wf, IntKind.min, IntKind.max, IntKind.signed, IntKind.bits] at wq42; omega
  obtain ⟨xq43, eq43, wq43⟩ := rd_int (k := .i64) (by kernel_rfl) h16
  have vq43 : -9223372036854775808 ≤ xq43 ∧ xq43 ≤ 9223372036854775807 := by simp [Lit.wf, IntKind.min, IntKind.max, IntKind.signed, IntKind.bits] at wq43; omega
  obtain ⟨c45, _, h46⟩ := rd_field (i := 0) (off := 0) (ft := 25) (z := 2) (z' := 1) (by kernel_rfl) (by kernel_rfl) (by kernel_rfl) h18
  obtain ⟨c47, _, h48⟩ := rd_field (i := 1) (off := 1) (ft := 25) (z := 2) (z' := 1) (by kernel_rfl) (by kernel_rfl) (by kernel_rfl) h18
  obtain ⟨xq49, eq49, wq49⟩ := rd_int (k := .u64) (by kernel_rfl) h46
  have vq49 : 0 ≤ xq49 ∧ xq49 ≤ 18446744073709551615 := by simp [Lit.wf, IntKind.min, IntKind.max, IntKind.signed, IntKind.bits] at wq49; omega
  obtain ⟨xq50, eq50, wq50⟩ := rd_int (k := .u64) (by kernel_rfl) h48
  have vq50 : 0 ≤ xq50 ∧ xq50 ≤ 18446744073709551615 := by simp [Lit.wf, IntKind.min, IntKind.max, IntKind.signed, IntKind.bits] at wq50; omega
  obtain ⟨c52, _, h53⟩ := rd_field (i := 0) (off := 0) (ft := 3) (z := 3) (z' := 1) (by kernel_rfl) (by kernel_rfl) (by kernel_rfl) h20
  obtain ⟨c54, _, h55⟩ := rd_field (i := 1) (off := 1) (ft := 28) (z := 3) (z' := 1) (by kernel_rfl) (by kernel_rfl) (by kernel_rfl) h20
  obtain ⟨c56, _, h57⟩ := rd_field (i := 2) (off := 2) (ft := 28) (z := 3) (z' := 1) (by kernel_rfl) (by kernel_rfl) (by kernel_rfl) h20
  obtain ⟨xq58, eq58, wq58⟩ := rd_int (k := .i64) (by kernel_rfl) h53
  have vq58 : -9223372036854775808 ≤ xq58 ∧ xq58 ≤ 9223372036854775807 := by simp [Lit.wf, IntKind.min, IntKind.max, IntKind.signed, IntKind.bits] at wq58; omega
  obtain ⟨xq59, eq59, wq59⟩ := rd_int (k := .u16) (by kernel_rfl) h55
  have vq59 : 0 ≤ xq59 ∧ xq59 ≤ 65535 := by simp [Lit.wf, IntKind.min, IntKind.max, IntKind.signed, IntKind.bits] at wq59; omega
  obtain ⟨xq60, eq60, wq60⟩ := rd_int (k := .u16) (by kernel_rfl) h57
  have vq60 : 0 ≤ xq60 ∧ xq60 ≤ 65535 := by simp [Lit.wf, IntKind.min, IntKind.max, IntKind.signed, IntKind.bits] at wq60; omega
  obtain ⟨xq61, eq61, wq61⟩ := rd_int (k := .u64) (by kernel_rfl) h22
  have vq61 : 0 ≤ xq61 ∧ xq61 ≤ 18446744073709551615 := by simp [Lit.wf, IntKind.min, IntKind.max, IntKind.signed, IntKind.bits] at wq61; omega
  obtain ⟨xq62, eq62, wq62⟩ := rd_int (k := .u64) (by kernel_rfl) h24
  have vq62 : 0 ≤ xq62 ∧ xq62 ≤ 18446744073709551615 := by simp [Lit.wf, IntKind.min, IntKind.max, IntKind.signed, IntKind.bits] at wq62; omega
  obtain ⟨xq63, eq63, wq63⟩ := rd_int (k := .u64) (by kernel_rfl) h26
  have vq63 : 0 ≤ xq63 ∧ xq63 ≤ 18446744073709551615 := by simp [Lit.wf, IntKind.min, IntKind.max, IntKind.signed, IntKind.bits] at wq63; omega
  obtain ⟨xq64, eq64, wq64⟩ := rd_int (k := .u64) (by kernel_rfl) h28
  have vq64 : 0 ≤ xq64 ∧ xq64 ≤ 18446744073709551615 := by simp [Lit.wf, IntKind.min, IntKind.max, IntKind.signed, IntKind.bits] at wq64; omega
  obtain ⟨xq65, eq65⟩ := rd_bool (by kernel_rfl) h30
  obtain ⟨xq66, eq66⟩ := rd_bool (by kernel_rfl) h32
  obtain ⟨xq67, eq67, wq67⟩ := rd_int (k := .i64) (by kernel_rfl) h34
  have vq67 : -9223372036854775808 ≤ xq67 ∧ xq67 ≤ 9223372036854775807 := by simp [Lit.wf, IntKind.min, IntKind.max, IntKind.signed, IntKind.bits] at wq67; omega
  obtain ⟨xq68, eq68, wq68⟩ := rd_int (k := .i64) (by kernel_rfl) h36
  have vq68 : -9223372036854775808 ≤ xq68 ∧ xq68 ≤ 9223372036854775807 := by simp [Lit.wf, IntKind.min, IntKind.max, IntKind.signed, IntKind.bits] at wq68; omega
  obtain ⟨xq69, eq69, wq69⟩ := rd_int (k := .i64) (by kernel_rfl) h38
  have vq69 : -9223372036854775808 ≤ xq69 ∧ xq69 ≤ 9223372036854775807 := by simp [Lit.wf, IntKind.min, IntKind.max, IntKind.signed, IntKind.bits] at wq69; omega
  obtain ⟨xq70, eq70, wq70⟩ := rd_int (k := .i64) (by kernel_rfl) h40
  have vq70 : -9223372036854775808 ≤ xq70 ∧ xq70 ≤ 9223372036854775807 := by simp [Lit.wf, IntKind.min, IntKind.max, IntKind.signed, IntKind.bits] at wq70; omega
  match es, c2 with
  | [u0, u1, u2, u3, u4, u5, u6, u7, u8, u9, u10, u11, u12, u13, u14, u15, u16, u17, u18, u19], _ =>
    simp at eq8 eq9 eq41 eq42 eq43 eq49 eq50 eq58 eq59 eq60 eq61 eq62 eq63 eq64 eq65 eq66 eq67 eq68 eq69 eq70
    subst eq8; subst eq9; subst eq41; subst eq42; subst eq43; subst eq49; subst eq50; subst eq58; subst eq59; subst eq60; subst eq61; subst eq62; subst eq63; subst eq64; subst eq65; subst eq66; subst eq67; subst eq68; subst eq69; subst eq70
    exact ⟨⟨xq8, xq9, xq41, xq42, xq43, xq49, xq50, xq58, xq59, xq60, xq61, xq62, xq63, xq64, xq65, xq66, xq67, xq68, xq69, xq70⟩, rfl, ⟨vq8, vq9, vq41, vq42, vq43, vq49, vq50, vq58, vq59, vq60, vq61, vq62, vq63, vq64, vq67, vq68, vq69, vq70⟩⟩
theorem ed_ok {W : World} {e : Ed} (h : ed_rd_wf W e) : EdOk e := by
  unfold ed_rd_wf at h
  unfold EdOk
  omega
theorem walk_AuditFits (W : World) (args : List Value) (h : ArgsOk Tryz.prog W Tryz.f3.params.toList args) : CALL Tryz.prog 3 args W fun v W' => v = .bool true ∧ Kp [] W W' := by
  have h' : ArgsOk PG W [34, 34, 35] args := h
  obtain ⟨v0, r0, rfl, h0, h'⟩ := h'.cons
  obtain ⟨v1, r1, rfl, h1, h'⟩ := h'.cons
  obtain ⟨v2, r2, rfl, h2, h'⟩ := h'.cons
  obtain rfl := h'.nil
  obtain ⟨f2, h2⟩ := h2.one (by kernel_rfl)
  obtain ⟨a, rfl, ha⟩ := agg_rd ed_rd h0
  obtain ⟨b, rfl, hb⟩ := agg_rd ed_rd h1
  obtain ⟨A, l, c, rfl, _, _, hl, hw⟩ := rows_rd (z := 20) ed_rd h2
  have hs := St.start (w := W) (φ := fun w => Row w A (l.flatMap ed)) fun w' hw => hl.same hw
  exact auditfits_ok hs (ed_ok ha) (ed_ok hb) (fun x hx => ed_ok (hw x hx)) (RdIn.rows .head) fun W' k => ⟨rfl, k.kp⟩

set_option maxRecDepth 100000 in
theorem lifted_AuditFits (os : Os) (started : os.Started) (H : Type) (enc : TypeId × Value → H) :
    ReturnsInHanded {} Tryz.checked os 3 .any (Rows.auditFitsSpec.pre6 enc Tryz.prog Tryz.f3 Rows.auditFitsRow.domain false) (Rows.auditFitsSpec.post enc Tryz.prog Tryz.f3 false true false false) :=
  law_lift (C := Tryz.checked) (bt := 4) (by kernel_rfl) started (by kernel_rfl) Tryz.func3 (by kernel_rfl) (by kernel_rfl) (by kernel_rfl) (by kernel_rfl) rfl
    (ChangeSpec.witness6 (enc := enc) (C := Tryz.checked) false ⟨#[], #[.agg #[.int .i64 0, .int .i64 0, .int .i64 0, .int .i64 0, .int .i64 0, .int .u64 0, .int .u64 0, .int .i64 0, .int .u16 0, .int .u16 0, .int .u64 0, .int .u64 0, .int .u64 0, .int .u64 0, .bool false, .bool false, .int .i64 0, .int .i64 0, .int .i64 0, .int .i64 0], .agg #[.int .i64 0, .int .i64 0, .int .i64 0, .int .i64 0, .int .i64 0, .int .u64 0, .int .u64 0, .int .i64 0, .int .u16 0, .int .u16 0, .int .u64 0, .int .u64 0, .int .u64 0, .int .u64 0, .bool false, .bool false, .int .i64 0, .int .i64 0, .int .i64 0, .int .i64 0], .slice none 0 0], []⟩ 8 (by kernel_rfl) (by kernel_rfl) (by kernel_rfl) (by kernel_rfl))
    (fun ds hd => by
      match ds, hd with
      | [d0, d1, d2], _ => rfl)
    walk_AuditFits

end Go.Proofs.YtedgfhklpfmjaaaGreat
