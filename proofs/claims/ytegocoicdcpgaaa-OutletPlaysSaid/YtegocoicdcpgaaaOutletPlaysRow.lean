/- OutletPlays: for every input the law returns true, and each argument reads behind the call as it read before. No condition. -/
import Derived.Test.YtegocoicdcpgaaaOutletPlay2
import Derived.Test.YtegocoicdcpgaaaBrRow
import Derived.Test.YtegocoicdcpgaaaRows
namespace Go.Proofs.Ytegocoicdcpgaaa
open Go Go.Br

theorem ops_of {W : World} {f : Nat} {v : Value} (h : RdT PG W f 89 [v]) : ∃ (A : Option Addr) (Y : List OpO) (c : Nat), v = .slice A Y.length c ∧ Row W A (Y.flatMap opc) ∧ ∀ y ∈ Y, Row W y.B (bvs y.xs) ∧ y.xs.length ≤ y.Bk ∧ y.to < 18446744073709551616 := by
  obtain ⟨g, A, n, c, e, _, _, hl⟩ := rd_slice (e := 99) (z := 4) (by kernel_rfl) (by kernel_rfl) h
  injection e with e
  subst e
  obtain ⟨Y, hL, hx⟩ := exists_list (p := fun i (y : OpO) => ∃ a, A = some a ∧ (∀ j v, (opc y)[j]? = some v → W.cell? (a.add (i * 4 + j)) = some v) ∧ Row W y.B (bvs y.xs) ∧ y.xs.length ≤ y.Bk ∧ y.to < 18446744073709551616) n fun i hi => by
    obtain ⟨a, es, q1, q2, q3, q4⟩ := hl i hi
    obtain ⟨c1, g1, r1⟩ := rd_field (i := 0) (off := 0) (ft := 3) (z := 4) (z' := 1) (by kernel_rfl) (by kernel_rfl) (by kernel_rfl) q4
    obtain ⟨_, g2, r2⟩ := rd_field (i := 1) (off := 1) (ft := 3) (z := 4) (z' := 1) (by kernel_rfl) (by kernel_rfl) (by kernel_rfl) q4
    obtain ⟨_, g3, r3⟩ := rd_field (i := 2) (off := 2) (ft := 40) (z := 4) (z' := 1) (by kernel_rfl) (by kernel_rfl) (by kernel_rfl) q4
    obtain ⟨_, g4, r4⟩ := rd_field (i := 3) (off := 3) (ft := 28) (z := 4) (z' := 1) (by kernel_rfl) (by kernel_rfl) (by kernel_rfl) q4
    obtain ⟨x, e1, _⟩ := rd_int (k := .i64) (by kernel_rfl) r1
    obtain ⟨y, e2, _⟩ := rd_int (k := .i64) (by kernel_rfl) r2
    obtain ⟨z, e3, hz⟩ := rd_int (k := .u64) (by kernel_rfl) r3
    obtain ⟨B, m, d, xs, e4, hmd, _, hxl, hrow⟩ := rd_bytes (e := 5) (by kernel_rfl) (by kernel_rfl) (by kernel_rfl) r4
    have hz' : 0 ≤ z ∧ z < 18446744073709551616 := by
      simp [Lit.wf, IntKind.min, IntKind.max, IntKind.signed, IntKind.bits] at hz
      omega
    match es, c1 with
    | [u, v, t, s], _ =>
      simp at e1 e2 e3 e4
      subst e1; subst e2; subst e3; subst e4
      refine ⟨⟨x, y, z.toNat, B, d, xs⟩, a, q1, fun j v hj => q3 j v ?_, hrow, by show xs.length ≤ d; omega, by show z.toNat < _; omega⟩
      rw [← hj]; simp [opc, hxl, Int.toNat_of_nonneg hz'.1]
  refine ⟨A, Y, c, by rw [hL], ?_, fun y hy => ?_⟩
  · exact row_of opc_length fun i y hy => by
      obtain ⟨a, h1, h2, _⟩ := hx i y hy
      exact ⟨a, h1, h2⟩
  · obtain ⟨i, hi⟩ := List.mem_iff_getElem?.1 hy
    obtain ⟨a, h1, h2, h3⟩ := hx i y hi
    exact h3

theorem walk_OutletPlays (W : World) (args : List Value) (h : ArgsOk Try.prog W Try.f11.params.toList args) : CALL Try.prog 11 args W fun v W' => v = .bool true ∧ Kp [] W W' := by
  have h' : ArgsOk PG W [3, 40, 89] args := h
  obtain ⟨v0, r0, rfl, h0, h'⟩ := h'.cons
  obtain ⟨v1, r1, rfl, h1, h'⟩ := h'.cons
  obtain ⟨v2, r2, rfl, h2, h'⟩ := h'.cons
  obtain rfl := h'.nil
  obtain ⟨f0, h0⟩ := h0.one (by kernel_rfl)
  obtain ⟨f1, h1⟩ := h1.one (by kernel_rfl)
  obtain ⟨f2, h2⟩ := h2.one (by kernel_rfl)
  obtain ⟨size, e0, _⟩ := rd_int (k := .i64) (by kernel_rfl) h0
  obtain ⟨t, e1, hw⟩ := rd_int (k := .u64) (by kernel_rfl) h1
  obtain ⟨A, Y, c, rfl, hl, hY⟩ := ops_of h2
  injection e0 with e0; injection e1 with e1
  subst e0; subst e1
  have ht : 0 ≤ t ∧ t < 18446744073709551616 := by
    simp [Lit.wf, IntKind.min, IntKind.max, IntKind.signed, IntKind.bits] at hw
    omega
  obtain ⟨T, rfl⟩ : ∃ T : Nat, t = (T : Int) := ⟨t.toNat, by omega⟩
  have hs := St.start (w := W) (φ := fun w => Row w A (Y.flatMap opc) ∧ ∀ y ∈ Y, Row w y.B (bvs y.xs)) fun w' hw => ⟨hl.same hw, fun y hy => (hY y hy).1.same hw⟩
  exact oplays_ok hs (fun c w h => (h.ro .head).1) (fun y hy => ⟨fun c w h => (h.ro .head).2 y hy, (hY y hy).2.1, (hY y hy).2.2⟩) (by omega) fun W' k => ⟨rfl, k.kp⟩

set_option maxRecDepth 100000 in
theorem lifted_OutletPlays (os : Os) (started : os.Started) (H : Type) (enc : TypeId × Value → H) :
    ReturnsInHanded {} Try.checked os 11 .any (Rows.outletPlaysSpec.pre6 enc Try.prog Try.f11 Rows.outletPlaysRow.domain false) (Rows.outletPlaysSpec.post enc Try.prog Try.f11 false true false false) :=
  law_lift (C := Try.checked) (bt := 4) (by kernel_rfl) started (by kernel_rfl) Try.func11 (by kernel_rfl) (by kernel_rfl) (by kernel_rfl) (by kernel_rfl) rfl
    (ChangeSpec.witness6 (enc := enc) (C := Try.checked) false ⟨#[], #[.int .i64 0, .int .u64 0, .slice none 0 0], []⟩ 8 (by kernel_rfl) (by kernel_rfl) (by kernel_rfl) (by kernel_rfl))
    (fun ds hd => by
      match ds, hd with
      | [d0, d1, d2], _ => rfl)
    walk_OutletPlays

set_option maxRecDepth 100000 in
theorem OutletPlays_holds : Rows.OutletPlaysSaid :=
  OpenClaim.holds_of_wide 11 Try.f11 rfl rfl rfl rfl rfl rfl rfl ⟨rfl, rfl, rfl, rfl, rfl⟩ rfl rfl rfl rfl rfl (by kernel_rfl) Try.func11 (by kernel_rfl)
    (of_decide_eq_true (by kernel_rfl)) (by unfold Func.isWrapper; first | (rw [if_pos (by decide +kernel)]; kernel_rfl) | (rw [if_neg (by decide +kernel)]; exact ⟨rfl, rfl⟩))
    (fun os started H enc _ => lifted_OutletPlays os started H enc)
#print axioms OutletPlays_holds
end Go.Proofs.Ytegocoicdcpgaaa
