/- HostRefuses: for every input the law returns true, and each argument reads behind the call as it read before. No condition. -/
import Derived.Test.YtmdkhgibipojcaaGreatHostRefLaw
import Derived.Test.YtmdkhgibipojcaaGreatBrRow
import Derived.Test.YtmdkhgibipojcaaGreatRows
set_option linter.unusedVariables false
namespace Go.Proofs.YtmdkhgibipojcaaGreat
open Go Go.Br

def cfg_rd_wf (W : World) (x : Cfg) : Prop := (-9223372036854775808 ≤ x.ports ∧ x.ports ≤ 9223372036854775807) ∧ (-9223372036854775808 ≤ x.half ∧ x.half ≤ 9223372036854775807) ∧ (-9223372036854775808 ≤ x.conns ∧ x.conns ≤ 9223372036854775807) ∧ (-9223372036854775808 ≤ x.flows ∧ x.flows ≤ 9223372036854775807) ∧ (-9223372036854775808 ≤ x.buffer ∧ x.buffer ≤ 9223372036854775807) ∧ (-9223372036854775808 ≤ x.chunks ∧ x.chunks ≤ 9223372036854775807) ∧ (-9223372036854775808 ≤ x.addrs ∧ x.addrs ≤ 9223372036854775807) ∧ (-9223372036854775808 ≤ x.paths ∧ x.paths ≤ 9223372036854775807) ∧ (-9223372036854775808 ≤ x.mss ∧ x.mss ≤ 9223372036854775807) ∧ (-9223372036854775808 ≤ x.silence ∧ x.silence ≤ 9223372036854775807) ∧ (-9223372036854775808 ≤ x.keep ∧ x.keep ≤ 9223372036854775807) ∧ (-9223372036854775808 ≤ x.burst ∧ x.burst ≤ 9223372036854775807) ∧ (-9223372036854775808 ≤ x.rate ∧ x.rate ≤ 9223372036854775807) ∧ (-9223372036854775808 ≤ x.score ∧ x.score ≤ 9223372036854775807) ∧ (-9223372036854775808 ≤ x.policy ∧ x.policy ≤ 9223372036854775807)
theorem cfg_rd {W : World} {f : Nat} {es : List Value} (h : RdT PG W f 24 es) : ∃ x : Cfg, es = cfg x ∧ cfg_rd_wf W x := by
  obtain ⟨c2, _, h3⟩ := rd_field (i := 0) (off := 0) (ft := 3) (z := 15) (z' := 1) (by kernel_rfl) (by kernel_rfl) (by kernel_rfl) h
  obtain ⟨c4, _, h5⟩ := rd_field (i := 1) (off := 1) (ft := 3) (z := 15) (z' := 1) (by kernel_rfl) (by kernel_rfl) (by kernel_rfl) h
  obtain ⟨c6, _, h7⟩ := rd_field (i := 2) (off := 2) (ft := 3) (z := 15) (z' := 1) (by kernel_rfl) (by kernel_rfl) (by kernel_rfl) h
  obtain ⟨c8, _, h9⟩ := rd_field (i := 3) (off := 3) (ft := 3) (z := 15) (z' := 1) (by kernel_rfl) (by kernel_rfl) (by kernel_rfl) h
  obtain ⟨c10, _, h11⟩ := rd_field (i := 4) (off := 4) (ft := 3) (z := 15) (z' := 1) (by kernel_rfl) (by kernel_rfl) (by kernel_rfl) h
  obtain ⟨c12, _, h13⟩ := rd_field (i := 5) (off := 5) (ft := 3) (z := 15) (z' := 1) (by kernel_rfl) (by kernel_rfl) (by kernel_rfl) h
  obtain ⟨c14, _, h15⟩ := rd_field (i := 6) (off := 6) (ft := 3) (z := 15) (z' := 1) (by kernel_rfl) (by kernel_rfl) (by kernel_rfl) h
  obtain ⟨c16, _, h17⟩ := rd_field (i := 7) (off := 7) (ft := 3) (z := 15) (z' := 1) (by kernel_rfl) (by kernel_rfl) (by kernel_rfl) h
  obtain ⟨c18, _, h19⟩ := rd_field (i := 8) (off := 8) (ft := 3) (z := 15) (z' := 1) (by kernel_rfl) (by kernel_rfl) (by kernel_rfl) h
  obtain ⟨c20, _, h21⟩ := rd_field (i := 9) (off := 9) (ft := 3) (z := 15) (z' := 1) (by kernel_rfl) (by kernel_rfl) (by kernel_rfl) h
  obtain ⟨c22, _, h23⟩ := rd_field (i := 10) (off := 10) (ft := 3) (z := 15) (z' := 1) (by kernel_rfl) (by kernel_rfl) (by kernel_rfl) h
  obtain ⟨c24, _, h25⟩ := rd_field (i := 11) (off := 11) (ft := 3) (z := 15) (z' := 1) (by kernel_rfl) (by kernel_rfl) (by kernel_rfl) h
  obtain ⟨c26, _, h27⟩ := rd_field (i := 12) (off := 12) (ft := 3) (z := 15) (z' := 1) (by kernel_rfl) (by kernel_rfl) (by kernel_rfl) h
  obtain ⟨c28, _, h29⟩ := rd_field (i := 13) (off := 13) (ft := 3) (z := 15) (z' := 1) (by kernel_rfl) (by kernel_rfl) (by kernel_rfl) h
  obtain ⟨c30, _, h31⟩ := rd_field (i := 14) (off := 14) (ft := 22) (z := 15) (z' := 1) (by kernel_rfl) (by kernel_rfl) (by kernel_rfl) h
  obtain ⟨xq32, eq32, wq32⟩ := rd_int (k := .i64) (by kernel_rfl) h3
  have vq32 : -9223372036854775808 ≤ xq32 ∧ xq32 ≤ 9223372036854775807 := by simp [Lit.wf, IntKind.min, IntKind.max, IntKind.signed, IntKind.bits] at wq32; omega
  obtain ⟨xq33, eq33, wq33⟩ := rd_int (k := .i64) (by kernel_rfl) h5
  have vq33 : -9223372036854775808 ≤ xq33 ∧ xq33 ≤ 9223372036854775807 := by simp [Lit.wf, IntKind.min, IntKind.max, IntKind.signed, IntKind.bits] at wq33; omega
  obtain ⟨xq34, eq34, wq34⟩ := rd_int (k := .i64) (by kernel_rfl) h7
  have vq34 : -9223372036854775808 ≤ xq34 ∧ xq34 ≤ 9223372036854775807 := by simp [Lit.wf, IntKind.min, IntKind.max, IntKind.signed, IntKind.bits] at wq34; omega
  obtain ⟨xq35, eq35, wq35⟩ := rd_int (k := .i64) (by kernel_rfl) h9
  have vq35 : -9223372036854775808 ≤ xq35 ∧ xq35 ≤ 9223372036854775807 := by simp [Lit.wf, IntKind.min, IntKind.max, IntKind.signed, IntKind.bits] at wq35; omega
  obtain ⟨xq36, eq36, wq36⟩ := rd_int (k := .i64) (by kernel_rfl) h11
  have vq36 : -9223372036854775808 ≤ xq36 ∧ xq36 ≤ 9223372036854775807 := by simp [Lit.wf, IntKind.min, IntKind.max, IntKind.signed, IntKind.bits] at wq36; omega
  obtain ⟨xq37, eq37, wq37⟩ := rd_int (k := .i64) (by kernel_rfl) h13
  have vq37 : -9223372036854775808 ≤ xq37 ∧ xq37 ≤ 9223372036854775807 := by simp [Lit.wf, IntKind.min, IntKind.max, IntKind.signed, IntKind.bits] at wq37; omega
  obtain ⟨xq38, eq38, wq38⟩ := rd_int (k := .i64) (by kernel_rfl) h15
  have vq38 : -9223372036854775808 ≤ xq38 ∧ xq38 ≤ 9223372036854775807 := by simp [Lit.wf, IntKind.min, IntKind.max, IntKind.signed, IntKind.bits] at wq38; omega
  obtain ⟨xq39, eq39, wq39⟩ := rd_int (k := .i64) (by kernel_rfl) h17
  have vq39 : -9223372036854775808 ≤ xq39 ∧ xq39 ≤ 9223372036854775807 := by simp [Lit.wf, IntKind.min, IntKind.max, IntKind.signed, IntKind.bits] at wq39; omega
  obtain ⟨xq40, eq40, wq40⟩ := rd_int (k := .i64) (by kernel_rfl) h19
  have vq40 : -9223372036854775808 ≤ xq40 ∧ xq40 ≤ 9223372036854775807 := by simp [Lit.wf, IntKind.min, IntKind.max, IntKind.signed, IntKind.bits] at wq40; omega
  obtain ⟨xq41, eq41, wq41⟩ := rd_int (k := .i64) (by kernel_rfl) h21
  have vq41 : -9223372036854775808 ≤ xq41 ∧ xq41 ≤ 9223372036854775807 := by simp [Lit.wf, IntKind.min, IntKind.max, IntKind.signed, IntKind.bits] at wq41; omega
  obtain ⟨xq42, eq42, wq42⟩ := rd_int (k := .i64) (by kernel_rfl) h23
  have vq42 : -9223372036854775808 ≤ xq42 ∧ xq42 ≤ 9223372036854775807 := by simp [Lit.wf, IntKind.min, IntKind.max, IntKind.signed, IntKind.bits] at wq42; omega
  obtain ⟨xq43, eq43, wq43⟩ := rd_int (k := .i64) (by kernel_rfl) h25
  have vq43 : -9223372036854775808 ≤ xq43 ∧ xq43 ≤ 9223372036854775807 := by simp [Lit.wf, IntKind.min, IntKind.max, IntKind.signed, IntKind.bits] at wq43; omega
  obtain ⟨xq44, eq44, wq44⟩ := rd_int (k := .i64) (by kernel_rfl) h27
  have vq44 : -9223372036854775808 ≤ xq44 ∧ xq44 ≤ 9223372036854775807 := by simp [Lit.wf, IntKind.min, IntKind.max, IntKind.signed, IntKind.bits] at wq44; omega
  obtain ⟨xq45, eq45, wq45⟩ := rd_int (k := .i64) (by kernel_rfl) h29
  have vq45 : -9223372036854775808 ≤ xq45 ∧ xq45 ≤ 9223372036854775807 := by simp [Lit.wf, IntKind.min, IntKind.max, IntKind.signed, IntKind.bits] at wq45; omega
  obtain ⟨xq46, eq46, wq46⟩ := rd_int (k := .i64) (by kernel_rfl) h31
  have vq46 : -9223372036854775808 ≤ xq46 ∧ xq46 ≤ 9223372036854775807 := by simp [Lit.wf, IntKind.min, IntKind.max, IntKind.signed, IntKind.bits] at wq46; omega
  match es, c2 with
  | [u0, u1, u2, u3, u4, u5, u6, u7, u8, u9, u10, u11, u12, u13, u14], _ =>
    simp at eq32 eq33 eq34 eq35 eq36 eq37 eq38 eq39 eq40 eq41 eq42 eq43 eq44 eq45 eq46
    subst eq32; subst eq33; subst eq34; subst eq35; subst eq36; subst eq37; subst eq38; subst eq39; subst eq40; subst eq41; subst eq42; subst eq43; subst eq44; subst eq45; subst eq46
    exact ⟨⟨xq32, xq33, xq34, xq35, xq36, xq37, xq38, xq39, xq40, xq41, xq42, xq43, xq44, xq45, xq46⟩, rfl, ⟨vq32, vq33, vq34, vq35, vq36, vq37, vq38, vq39, vq40, vq41, vq42, vq43, vq44, vq45, vq46⟩⟩
structure Pr2 where
  k0 : Int
  k1 : Int
def pr2 (x : Pr2) : List Value := [.int .u64 x.k0, .int .u64 x.k1]
abbrev pr2v (x : Pr2) : Value := .agg #[.int .u64 x.k0, .int .u64 x.k1]
theorem pr2_length (x : Pr2) : (pr2 x).length = 2 := rfl
theorem pr2_flat1 (x : Pr2) : Flat (pr2 x) := by intro v hv; simp [pr2] at hv; rcases hv with rfl | rfl <;> rfl
theorem pr2_flat (L : List Pr2) : Flat (L.flatMap pr2) := by
  intro v hv
  simp only [List.mem_flatMap] at hv
  obtain ⟨x, _, hx⟩ := hv
  exact pr2_flat1 x v hx
def pr_rd_wf (W : World) (x : Pr2) : Prop := (0 ≤ x.k0 ∧ x.k0 ≤ 18446744073709551615) ∧ (0 ≤ x.k1 ∧ x.k1 ≤ 18446744073709551615)
theorem pr_rd {W : World} {f : Nat} {es : List Value} (h : RdT PG W f 27 es) : ∃ x : Pr2, es = pr2 x ∧ pr_rd_wf W x := by
  obtain ⟨c2, _, h3⟩ := rd_field (i := 0) (off := 0) (ft := 25) (z := 2) (z' := 1) (by kernel_rfl) (by kernel_rfl) (by kernel_rfl) h
  obtain ⟨c4, _, h5⟩ := rd_field (i := 1) (off := 1) (ft := 25) (z := 2) (z' := 1) (by kernel_rfl) (by kernel_rfl) (by kernel_rfl) h
  obtain ⟨xq6, eq6, wq6⟩ := rd_int (k := .u64) (by kernel_rfl) h3
  have vq6 : 0 ≤ xq6 ∧ xq6 ≤ 18446744073709551615 := by simp [Lit.wf, IntKind.min, IntKind.max, IntKind.signed, IntKind.bits] at wq6; omega
  obtain ⟨xq7, eq7, wq7⟩ := rd_int (k := .u64) (by kernel_rfl) h5
  have vq7 : 0 ≤ xq7 ∧ xq7 ≤ 18446744073709551615 := by simp [Lit.wf, IntKind.min, IntKind.max, IntKind.signed, IntKind.bits] at wq7; omega
  match es, c2 with
  | [u0, u1], _ =>
    simp at eq6 eq7
    subst eq6; subst eq7
    exact ⟨⟨xq6, xq7⟩, rfl, ⟨vq6, vq7⟩⟩
theorem walk_HostRefuses (W : World) (args : List Value) (h : ArgsOk Tryz.prog W Tryz.f3.params.toList args) : CALL Tryz.prog 3 args W fun v W' => v = .bool true ∧ Kp [] W W' := by
  have h' : ArgsOk PG W [24, 27, 28] args := h
  obtain ⟨v0, r0, rfl, h0, h'⟩ := h'.cons
  obtain ⟨v1, r1, rfl, h1, h'⟩ := h'.cons
  obtain ⟨v2, r2, rfl, h2, h'⟩ := h'.cons
  obtain rfl := h'.nil
  obtain ⟨g, rfl, _⟩ := agg_rd cfg_rd h0
  obtain ⟨s, rfl, _⟩ := agg_rd pr_rd h1
  obtain ⟨f2, h2⟩ := h2.one (by kernel_rfl)
  have hrd : ∀ {f : Nat} {es : List Value}, RdT PG W f 25 es → ∃ x, es = kv1 x ∧ (fun (_ : World) (x : Int) => 0 ≤ x ∧ x < 18446744073709551616) W x := fun {f es} h => by
    obtain ⟨n, rfl, hw⟩ := rd_int (k := .u64) (by kernel_rfl) h
    refine ⟨n, rfl, ?_⟩
    simp [Lit.wf, IntKind.min, IntKind.max, IntKind.signed, IntKind.bits] at hw
    exact ⟨by omega, by omega⟩
  obtain ⟨A, l, c, rfl, _, _, hl, hw⟩ := rows_rd (g := kv1) (WF := fun (_ : World) (x : Int) => 0 ≤ x ∧ x < 18446744073709551616) (z := 1) hrd h2
  have hs := St.start (w := W) (φ := fun w => Row w A (l.flatMap kv1)) fun w' hw => hl.same hw
  exact refuses_ok hs (g := g) (k0 := s.k0) (k1 := s.k1) hw (RdIn.rows .head) fun W' k => ⟨rfl, k.kp⟩

set_option maxRecDepth 100000 in
theorem lifted_HostRefuses (os : Os) (started : os.Started) (H : Type) (enc : TypeId × Value → H) :
    ReturnsInHanded {} Tryz.checked os 3 .any (Rows.hostRefusesSpec.pre6 enc Tryz.prog Tryz.f3 Rows.hostRefusesRow.domain false) (Rows.hostRefusesSpec.post enc Tryz.prog Tryz.f3 false true false false) :=
  law_lift (C := Tryz.checked) (bt := 4) (by kernel_rfl) started (by kernel_rfl) Tryz.func3 (by kernel_rfl) (by kernel_rfl) (by kernel_rfl) (by kernel_rfl) rfl
    (ChangeSpec.witness6 (enc := enc) (C := Tryz.checked) false ⟨#[], #[.agg #[.int .i64 0, .int .i64 0, .int .i64 0, .int .i64 0, .int .i64 0, .int .i64 0, .int .i64 0, .int .i64 0, .int .i64 0, .int .i64 0, .int .i64 0, .int .i64 0, .int .i64 0, .int .i64 0, .int .i64 0], .agg #[.int .u64 0, .int .u64 0], .slice none 0 0], []⟩ 8 (by kernel_rfl) (by kernel_rfl) (by kernel_rfl) (by kernel_rfl))
    (fun ds hd => by
      match ds, hd with
      | [d0, d1, d2], _ => rfl)
    walk_HostRefuses

end Go.Proofs.YtmdkhgibipojcaaGreat
