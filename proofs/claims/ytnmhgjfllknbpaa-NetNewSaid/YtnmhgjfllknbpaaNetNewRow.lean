/- NetNew: for every input the law returns true, and each argument reads behind the call as it read before. No condition. -/
import Derived.Test.YtnmhgjfllknbpaaNetNewLaw
import Derived.Test.YtnmhgjfllknbpaaBrRow
import Derived.Test.YtnmhgjfllknbpaaRows
set_option linter.unusedVariables false
namespace Go.Proofs.Ytnmhgjfllknbpaa
open Go Go.Br

def cfg_rd_wf (W : World) (x : Cfg) : Prop := (-9223372036854775808 ≤ x.ports ∧ x.ports ≤ 9223372036854775807) ∧ (-9223372036854775808 ≤ x.half ∧ x.half ≤ 9223372036854775807) ∧ (-9223372036854775808 ≤ x.conns ∧ x.conns ≤ 9223372036854775807) ∧ (-9223372036854775808 ≤ x.flows ∧ x.flows ≤ 9223372036854775807) ∧ (-9223372036854775808 ≤ x.buffer ∧ x.buffer ≤ 9223372036854775807) ∧ (-9223372036854775808 ≤ x.chunks ∧ x.chunks ≤ 9223372036854775807) ∧ (-9223372036854775808 ≤ x.addrs ∧ x.addrs ≤ 9223372036854775807) ∧ (-9223372036854775808 ≤ x.paths ∧ x.paths ≤ 9223372036854775807) ∧ (-9223372036854775808 ≤ x.mss ∧ x.mss ≤ 9223372036854775807) ∧ (-9223372036854775808 ≤ x.silence ∧ x.silence ≤ 9223372036854775807) ∧ (-9223372036854775808 ≤ x.keep ∧ x.keep ≤ 9223372036854775807) ∧ (-9223372036854775808 ≤ x.burst ∧ x.burst ≤ 9223372036854775807) ∧ (-9223372036854775808 ≤ x.rate ∧ x.rate ≤ 9223372036854775807) ∧ (-9223372036854775808 ≤ x.score ∧ x.score ≤ 9223372036854775807) ∧ (-9223372036854775808 ≤ x.policy ∧ x.policy ≤ 9223372036854775807)
theorem cfg_rd {W : World} {f : Nat} {es : List Value} (h : RdT PG W f 24 es) : ∃ x : Cfg, es = cfg x ∧ cfg_rd_wf W x := by
  obtain ⟨c2, _, h3⟩ := rd_field (i := 0) (off := 0) (ft := 3) (z := 15) (z' := 1) (by kernel_rfl) (by kernel_rfl) (by kernel_rfl) h
  obtain ⟨c4, _, h5⟩ := rd_field (i := 1) (off := 1) (ft := 3) (z := 15) (z' := 1) (by kernel_rfl) (by kernel_rfl) (by kernel_rfl) h
  obtain ⟨c6, _, h7⟩ := rd_field (i := 2) (off := 2) (ft := 3) (z := 15) (z' := 1) (by kernel_rfl) (by kernel_rfl) (by kernel_rfl) h
  obtain ⟨c8, _, h9⟩ := rd_field (i := 3) (off := 3) (ft := 3) (z := 15) (z' := 1) (by kernel_rfl) (by kernel_rfl) (by kernel_rfl) h
  obtain ⟨c10, _, h11⟩ := rd_field (i := 4) (off := 4) (ft := 3) (z := 15) (z' := 1) (by kernel_rfl) (by kernel_rfl) (by kernel_rfl) h
  obtain ⟨c12, _, h13⟩ := rd_field (i := 5) (off := 5) (ft := 3) (z := 15) (z' := 1) (by kernel_rfl) (by kernel_rfl) (by kernel_rfl) h
  obtain ⟨c14, _, h15⟩ := rd_field (i := 6) (off := 6) (ft := 3) (z := 15) (z' := 1) (by kernel_rfl) (by kernel_rfl) (by kernel_rfl) h
  obtain ⟨c16, _, h17⟩ := rd_field (i := 7) (off := 7) (ft := 3) (z := 15) (z' := 1) (by kernel_rfl) (by kernel_rfl) (by kernel_rfl) h
  obtain ⟨c18, _, h19⟩ := rd_field (i := 8) (off := 8) (ft := 3) (z := 15) (z' := 1) (by kernel_rfl) (by kernel_rfl) (by kernel_rfl) h
  obtain ⟨c20, _, h21⟩ := rd_field (i := 9) (off := 9) (ft := 3) (z := 15) (z' := 1) (by kernel_rfl) (by kernel_rfl) (by kernel_rfl) h
  obtain ⟨c22, _, h23⟩ := rd_field (i := 10) (off := 10) (ft := 3) (z := 15) (z' := 1) (by kernel_rfl) (by kernel_rfl) (by kernel_rfl) h
  obtain ⟨c24, _, h25⟩ := rd_field (i := 11) (off := 11) (ft := 3) (z := 15) (z' := 1) (by kernel_rfl) (by kernel_rfl) (by kernel_rfl) h
  obtain ⟨c26, _, h27⟩ := rd_field (i := 12) (off := 12) (ft := 3) (z := 15) (z' := 1) (by kernel_rfl) (by kernel_rfl) (by kernel_rfl) h
  obtain ⟨c28, _, h29⟩ := rd_field (i := 13) (off := 13) (ft := 3) (z := 15) (z' := 1) (by kernel_rfl) (by kernel_rfl) (by kernel_rfl) h
  obtain ⟨c30, _, h31⟩ := rd_field (i := 14) (off := 14) (ft := 22) (z := 15) (z' := 1) (by kernel_rfl) (by kernel_rfl) (by kernel_rfl) h
  obtain ⟨xq32, eq32, wq32⟩ := rd_int (k := .i64) (by kernel_rfl) h3
  have vq32 : -9223372036854775808 ≤ xq32 ∧ xq32 ≤ 9223372036854775807 := by simp [Lit.wf, IntKind.min, IntKind.max, IntKind.signed, IntKind.bits] at wq32; omega
  obtain ⟨xq33, eq33, wq33⟩ := rd_int (k := .i64) (by kernel_rfl) h5
  have vq33 : -9223372036854775808 ≤ xq33 ∧ xq33 ≤ 9223372036854775807 := by simp [Lit.wf, IntKind.min, IntKind.max, IntKind.signed, IntKind.bits] at wq33; omega
  obtain ⟨xq34, eq34, wq34⟩ := rd_int (k := .i64) (by kernel_rfl) h7
  have vq34 : -9223372036854775808 ≤ xq34 ∧ xq34 ≤ 9223372036854775807 := by simp [Lit.wf, IntKind.min, IntKind.max, IntKind.signed, IntKind.bits] at wq34; omega
  obtain ⟨xq35, eq35, wq35⟩ := rd_int (k := .i64) (by kernel_rfl) h9
  have vq35 : -9223372036854775808 ≤ xq35 ∧ xq35 ≤ 9223372036854775807 := by simp [Lit.wf, IntKind.min, IntKind.max, IntKind.signed, IntKind.bits] at wq35; omega
  obtain ⟨xq36, eq36, wq36⟩ := rd_int (k := .i64) (by kernel_rfl) h11
  have vq36 : -9223372036854775808 ≤ xq36 ∧ xq36 ≤ 9223372036854775807 := by simp [Lit.wf, IntKind.min, IntKind.max, IntKind.signed, IntKind.bits] at wq36; omega
  obtain ⟨xq37, eq37, wq37⟩ := rd_int (k := .i64) (by kernel_rfl) h13
  have vq37 : -9223372036854775808 ≤ xq37 ∧ xq37 ≤ 9223372036854775807 := by simp [Lit.wf, IntKind.min, IntKind.max, IntKind.signed, IntKind.bits] at wq37; omega
  obtain ⟨xq38, eq38, wq38⟩ := rd_int (k := .i64) (by kernel_rfl) h15
  have vq38 : -9223372036854775808 ≤ xq38 ∧ xq38 ≤ 9223372036854775807 := by simp [Lit.wf, IntKind.min, IntKind.max, IntKind.signed, IntKind.bits] at wq38; omega
  obtain ⟨xq39, eq39, wq39⟩ := rd_int (k := .i64) (by kernel_rfl) h17
  have vq39 : -9223372036854775808 ≤ xq39 ∧ xq39 ≤ 9223372036854775807 := by simp [Lit.wf, IntKind.min, IntKind.max, IntKind.signed, IntKind.bits] at wq39; omega
  obtain ⟨xq40, eq40, wq40⟩ := rd_int (k := .i64) (by kernel_rfl) h19
  have vq40 : -9223372036854775808 ≤ xq40 ∧ xq40 ≤ 9223372036854775807 := by simp [Lit.wf, IntKind.min, IntKind.max, IntKind.signed, IntKind.bits] at wq40; omega
  obtain ⟨xq41, eq41, wq41⟩ := rd_int (k := .i64) (by kernel_rfl) h21
  have vq41 : -9223372036854775808 ≤ xq41 ∧ xq41 ≤ 9223372036854775807 := by simp [Lit.wf, IntKind.min, IntKind.max, IntKind.signed, IntKind.bits] at wq41; omega
  obtain ⟨xq42, eq42, wq42⟩ := rd_int (k := .i64) (by kernel_rfl) h23
  have vq42 : -9223372036854775808 ≤ xq42 ∧ xq42 ≤ 9223372036854775807 := by simp [Lit.wf, IntKind.min, IntKind.max, IntKind.signed, IntKind.bits] at wq42; omega
  obtain ⟨xq43, eq43, wq43⟩ := rd_int (k := .i64) (by kernel_rfl) h25
  have vq43 : -9223372036854775808 ≤ xq43 ∧ xq43 ≤ 9223372036854775807 := by simp [Lit.wf, IntKind.min, IntKind.max, IntKind.signed, IntKind.bits] at wq43; omega
  obtain ⟨xq44, eq44, wq44⟩ := rd_int (k := .i64) (by kernel_rfl) h27
  have vq44 : -9223372036854775808 ≤ xq44 ∧ xq44 ≤ 9223372036854775807 := by simp [Lit.wf, IntKind.min, IntKind.max, IntKind.signed, IntKind.bits] at wq44; omega
  obtain ⟨xq45, eq45, wq45⟩ := rd_int (k := .i64) (by kernel_rfl) h29
  have vq45 : -9223372036854775808 ≤ xq45 ∧ xq45 ≤ 9223372036854775807 := by simp [Lit.wf, IntKind.min, IntKind.max, IntKind.signed, IntKind.bits] at wq45; omega
  obtain ⟨xq46, eq46, wq46⟩ := rd_int (k := .i64) (by kernel_rfl) h31
  have vq46 : -9223372036854775808 ≤ xq46 ∧ xq46 ≤ 9223372036854775807 := by simp [Lit.wf, IntKind.min, IntKind.max, IntKind.signed, IntKind.bits] at wq46; omega
  match es, c2 with
  | [u0, u1, u2, u3, u4, u5, u6, u7, u8, u9, u10, u11, u12, u13, u14], _ =>
    simp at eq32 eq33 eq34 eq35 eq36 eq37 eq38 eq39 eq40 eq41 eq42 eq43 eq44 eq45 eq46
    subst eq32; subst eq33; subst eq34; subst eq35; subst eq36; subst eq37; subst eq38; subst eq39; subst eq40; subst eq41; subst eq42; subst eq43; subst eq44; subst eq45; subst eq46
    exact ⟨⟨xq32, xq33, xq34, xq35, xq36, xq37, xq38, xq39, xq40, xq41, xq42, xq43, xq44, xq45, xq46⟩, rfl, ⟨vq32, vq33, vq34, vq35, vq36, vq37, vq38, vq39, vq40, vq41, vq42, vq43, vq44, vq45, vq46⟩⟩
structure Kys where
  aK0 : Int
  aK1 : Int
  bK0 : Int
  bK1 : Int
def kys (x : Kys) : List Value := [.int .u64 x.aK0, .int .u64 x.aK1, .int .u64 x.bK0, .int .u64 x.bK1]
abbrev kysv (x : Kys) : Value := .agg #[.int .u64 x.aK0, .int .u64 x.aK1, .int .u64 x.bK0, .int .u64 x.bK1]
theorem kys_length (x : Kys) : (kys x).length = 4 := rfl
theorem kys_flat1 (x : Kys) : Flat (kys x) := by intro v hv; simp [kys] at hv; rcases hv with rfl | rfl | rfl | rfl <;> rfl
theorem kys_flat (L : List Kys) : Flat (L.flatMap kys) := by
  intro v hv
  simp only [List.mem_flatMap] at hv
  obtain ⟨x, _, hx⟩ := hv
  exact kys_flat1 x v hx
def kys_rd_wf (W : World) (x : Kys) : Prop := (0 ≤ x.aK0 ∧ x.aK0 ≤ 18446744073709551615) ∧ (0 ≤ x.aK1 ∧ x.aK1 ≤ 18446744073709551615) ∧ (0 ≤ x.bK0 ∧ x.bK0 ≤ 18446744073709551615) ∧ (0 ≤ x.bK1 ∧ x.bK1 ≤ 18446744073709551615)
theorem kys_rd {W : World} {f : Nat} {es : List Value} (h : RdT PG W f 29 es) : ∃ x : Kys, es = kys x ∧ kys_rd_wf W x := by
  obtain ⟨c2, _, h3⟩ := rd_field (i := 0) (off := 0) (ft := 27) (z := 4) (z' := 2) (by kernel_rfl) (by kernel_rfl) (by kernel_rfl) h
  obtain ⟨c4, _, h5⟩ := rd_field (i := 1) (off := 2) (ft := 27) (z := 4) (z' := 2) (by kernel_rfl) (by kernel_rfl) (by kernel_rfl) h
  obtain ⟨c7, _, h8⟩ := rd_field (i := 0) (off := 0) (ft := 25) (z := 2) (z' := 1) (by kernel_rfl) (by kernel_rfl) (by kernel_rfl) h3
  obtain ⟨c9, _, h10⟩ := rd_field (i := 1) (off := 1) (ft := 25) (z := 2) (z' := 1) (by kernel_rfl) (by kernel_rfl) (by kernel_rfl) h3
  obtain ⟨xq11, eq11, wq11⟩ := rd_int (k := .u64) (by kernel_rfl) h8
  have vq11 : 0 ≤ xq11 ∧ xq11 ≤ 18446744073709551615 := by simp [Lit.wf, IntKind.min, IntKind.max, IntKind.signed, IntKind.bits] at wq11; omega
  obtain ⟨xq12, eq12, wq12⟩ := rd_int (k := .u64) (by kernel_rfl) h10
  have vq12 : 0 ≤ xq12 ∧ xq12 ≤ 18446744073709551615 := by simp [Lit.wf, IntKind.min, IntKind.max, IntKind.signed, IntKind.bits] at wq12; omega
  obtain ⟨c14, _, h15⟩ := rd_field (i := 0) (off := 0) (ft := 25) (z := 2) (z' := 1) (by kernel_rfl) (by kernel_rfl) (by kernel_rfl) h5
  obtain ⟨c16, _, h17⟩ := rd_field (i := 1) (off := 1) (ft := 25) (z := 2) (z' := 1) (by kernel_rfl) (by kernel_rfl) (by kernel_rfl) h5
  obtain ⟨xq18, eq18, wq18⟩ := rd_int (k := .u64) (by kernel_rfl) h15
  have vq18 : 0 ≤ xq18 ∧ xq18 ≤ 18446744073709551615 := by simp [Lit.wf, IntKind.min, IntKind.max, IntKind.signed, IntKind.bits] at wq18; omega
  obtain ⟨xq19, eq19, wq19⟩ := rd_int (k := .u64) (by kernel_rfl) h17
  have vq19 : 0 ≤ xq19 ∧ xq19 ≤ 18446744073709551615 := by simp [Lit.wf, IntKind.min, IntKind.max, IntKind.signed, IntKind.bits] at wq19; omega
  match es, c2 with
  | [u0, u1, u2, u3], _ =>
    simp at eq11 eq12 eq18 eq19
    subst eq11; subst eq12; subst eq18; subst eq19
    exact ⟨⟨xq11, xq12, xq18, xq19⟩, rfl, ⟨vq11, vq12, vq18, vq19⟩⟩
theorem walk_NetNew (W : World) (args : List Value) (h : ArgsOk Try.prog W Try.f3.params.toList args) : CALL Try.prog 3 args W fun v W' => v = .bool true ∧ Kp [] W W' := by
  have h' : ArgsOk PG W [24, 29] args := h
  obtain ⟨v0, r0, rfl, h0, h'⟩ := h'.cons
  obtain ⟨v1, r1, rfl, h1, h'⟩ := h'.cons
  obtain rfl := h'.nil
  obtain ⟨g, rfl, _⟩ := agg_rd cfg_rd h0
  obtain ⟨k, rfl, _⟩ := agg_rd kys_rd h1
  have hs := St.start (w := W) (φ := fun _ => True) fun w' hw => trivial
  exact netnew_ok hs g fun W' k => ⟨rfl, k.kp⟩

set_option maxRecDepth 100000 in
theorem lifted_NetNew (os : Os) (started : os.Started) (H : Type) (enc : TypeId × Value → H) :
    ReturnsInHanded {} Try.checked os 3 .any (Rows.netNewSpec.pre6 enc Try.prog Try.f3 Rows.netNewRow.domain false) (Rows.netNewSpec.post enc Try.prog Try.f3 false true false false) :=
  law_lift (C := Try.checked) (bt := 4) (by kernel_rfl) started (by kernel_rfl) Try.func3 (by kernel_rfl) (by kernel_rfl) (by kernel_rfl) (by kernel_rfl) rfl
    (ChangeSpec.witness6 (enc := enc) (C := Try.checked) false ⟨#[], #[.agg #[.int .i64 0, .int .i64 0, .int .i64 0, .int .i64 0, .int .i64 0, .int .i64 0, .int .i64 0, .int .i64 0, .int .i64 0, .int .i64 0, .int .i64 0, .int .i64 0, .int .i64 0, .int .i64 0, .int .i64 0], .agg #[.int .u64 0, .int .u64 0, .int .u64 0, .int .u64 0]], []⟩ 8 (by kernel_rfl) (by kernel_rfl) (by kernel_rfl) (by kernel_rfl))
    (fun ds hd => by
      match ds, hd with
      | [d0, d1], _ => rfl)
    walk_NetNew

set_option maxRecDepth 100000 in
theorem NetNew_holds : Rows.NetNewSaid :=
  OpenClaim.holds_of_wide 3 Try.f3 rfl rfl rfl rfl rfl rfl rfl ⟨rfl, rfl, rfl, rfl, rfl⟩ rfl rfl rfl rfl rfl (by kernel_rfl) Try.func3 (by kernel_rfl)
    (of_decide_eq_true (by kernel_rfl)) (by unfold Func.isWrapper; first | (rw [if_pos (by decide +kernel)]; kernel_rfl) | (rw [if_neg (by decide +kernel)]; exact ⟨rfl, rfl⟩))
    (fun os started H enc _ => lifted_NetNew os started H enc)
#print axioms NetNew_holds
end Go.Proofs.Ytnmhgjfllknbpaa
