/- FlightPlays: for every input the law returns true, and each argument reads behind the call as it read before. No condition. -/
import Derived.Test.YtegocoicdcpgaaaFlightPlay6
import Derived.Test.YtegocoicdcpgaaaBrRow
import Derived.Test.YtegocoicdcpgaaaRows
namespace Go.Proofs.Ytegocoicdcpgaaa
open Go Go.Br

theorem ops_of {W : World} {f : Nat} {v : Value} (h : RdT PG W f 121 [v]) : ∃ (A : Option Addr) (Y : List OpF) (c : Nat), v = .slice A Y.length c ∧ Row W A (Y.flatMap opf) ∧ ∀ y ∈ Y, WFc y.x := by
  obtain ⟨g, A, n, c, e, _, _, hl⟩ := rd_slice (e := 125) (z := 11) (by kernel_rfl) (by kernel_rfl) h
  injection e with e
  subst e
  obtain ⟨Y, hL, hx⟩ := exists_list (p := fun i (y : OpF) => ∃ a, A = some a ∧ (∀ j v, (opf y)[j]? = some v → W.cell? (a.add (i * 11 + j)) = some v) ∧ WFc y.x) n fun i hi => by
    obtain ⟨a, es, q1, q2, q3, q4⟩ := hl i hi
    obtain ⟨c1, g1, r1⟩ := rd_field (i := 0) (off := 0) (ft := 3) (z := 11) (z' := 1) (by kernel_rfl) (by kernel_rfl) (by kernel_rfl) q4
    obtain ⟨_, g2, r2⟩ := rd_field (i := 1) (off := 1) (ft := 46) (z := 11) (z' := 9) (by kernel_rfl) (by kernel_rfl) (by kernel_rfl) q4
    obtain ⟨_, g3, r3⟩ := rd_field (i := 2) (off := 10) (ft := 3) (z := 11) (z' := 1) (by kernel_rfl) (by kernel_rfl) (by kernel_rfl) q4
    obtain ⟨d0, _, s0⟩ := rd_field (i := 0) (off := 0) (ft := 40) (z := 9) (z' := 1) (by kernel_rfl) (by kernel_rfl) (by kernel_rfl) r2
    obtain ⟨_, _, s1⟩ := rd_field (i := 1) (off := 1) (ft := 3) (z := 9) (z' := 1) (by kernel_rfl) (by kernel_rfl) (by kernel_rfl) r2
    obtain ⟨_, _, s2⟩ := rd_field (i := 2) (off := 2) (ft := 4) (z := 9) (z' := 1) (by kernel_rfl) (by kernel_rfl) (by kernel_rfl) r2
    obtain ⟨_, _, s3⟩ := rd_field (i := 3) (off := 3) (ft := 3) (z := 9) (z' := 1) (by kernel_rfl) (by kernel_rfl) (by kernel_rfl) r2
    obtain ⟨_, _, s4⟩ := rd_field (i := 4) (off := 4) (ft := 44) (z := 9) (z' := 1) (by kernel_rfl) (by kernel_rfl) (by kernel_rfl) r2
    obtain ⟨_, _, s5⟩ := rd_field (i := 5) (off := 5) (ft := 3) (z := 9) (z' := 1) (by kernel_rfl) (by kernel_rfl) (by kernel_rfl) r2
    obtain ⟨_, _, s6⟩ := rd_field (i := 6) (off := 6) (ft := 3) (z := 9) (z' := 1) (by kernel_rfl) (by kernel_rfl) (by kernel_rfl) r2
    obtain ⟨_, _, s7⟩ := rd_field (i := 7) (off := 7) (ft := 4) (z := 9) (z' := 1) (by kernel_rfl) (by kernel_rfl) (by kernel_rfl) r2
    obtain ⟨_, _, s8⟩ := rd_field (i := 8) (off := 8) (ft := 4) (z := 9) (z' := 1) (by kernel_rfl) (by kernel_rfl) (by kernel_rfl) r2
    obtain ⟨k, e1, _⟩ := rd_int (k := .i64) (by kernel_rfl) r1
    obtain ⟨wt, e3, _⟩ := rd_int (k := .i64) (by kernel_rfl) r3
    obtain ⟨x0, t0, w0⟩ := rd_int (k := .u64) (by kernel_rfl) s0
    obtain ⟨x1, t1, _⟩ := rd_int (k := .i64) (by kernel_rfl) s1
    obtain ⟨x2, t2⟩ := rd_bool (by kernel_rfl) s2
    obtain ⟨x3, t3, _⟩ := rd_int (k := .i64) (by kernel_rfl) s3
    obtain ⟨x4, t4, w4⟩ := rd_int (k := .u32) (by kernel_rfl) s4
    obtain ⟨x5, t5, _⟩ := rd_int (k := .i64) (by kernel_rfl) s5
    obtain ⟨x6, t6, _⟩ := rd_int (k := .i64) (by kernel_rfl) s6
    obtain ⟨x7, t7⟩ := rd_bool (by kernel_rfl) s7
    obtain ⟨x8, t8⟩ := rd_bool (by kernel_rfl) s8
    have hw : WFc ⟨x0, x1, x2, x3, x4, x5, x6, x7, x8⟩ := by
      simp [Lit.wf, IntKind.min, IntKind.max, IntKind.signed, IntKind.bits] at w0 w4
      unfold WFc; simp only; omega
    match es, c1 with
    | [u0, u1, u2, u3, u4, u5, u6, u7, u8, u9, u10], _ =>
      simp at e1 e3 t0 t1 t2 t3 t4 t5 t6 t7 t8
      subst e1; subst e3; subst t0; subst t1; subst t2; subst t3; subst t4; subst t5; subst t6; subst t7; subst t8
      exact ⟨⟨k, ⟨x0, x1, x2, x3, x4, x5, x6, x7, x8⟩, wt⟩, a, q1, fun j v hj => q3 j v hj, hw⟩
  refine ⟨A, Y, c, by rw [hL], ?_, fun y hy => ?_⟩
  · exact row_of opf_length fun i y hy => by
      obtain ⟨a, h1, h2, _⟩ := hx i y hy
      exact ⟨a, h1, h2⟩
  · obtain ⟨i, hi⟩ := List.mem_iff_getElem?.1 hy
    obtain ⟨a, h1, h2, h3⟩ := hx i y hi
    exact h3

theorem walk_FlightPlays (W : World) (args : List Value) (h : ArgsOk Try.prog W Try.f14.params.toList args) : CALL Try.prog 14 args W fun v W' => v = .bool true ∧ Kp [] W W' := by
  have h' : ArgsOk PG W [3, 121] args := h
  obtain ⟨v0, r0, rfl, h0, h'⟩ := h'.cons
  obtain ⟨v1, r1, rfl, h1, h'⟩ := h'.cons
  obtain rfl := h'.nil
  obtain ⟨f0, h0⟩ := h0.one (by kernel_rfl)
  obtain ⟨f1, h1⟩ := h1.one (by kernel_rfl)
  obtain ⟨n, e0, _⟩ := rd_int (k := .i64) (by kernel_rfl) h0
  injection e0 with e0
  subst e0
  obtain ⟨A, Y, c, rfl, hl, hY⟩ := ops_of h1
  have hs := St.start (w := W) (φ := fun w => Row w A (Y.flatMap opf)) fun w' hw => hl.same hw
  exact fplays_ok hs (RdIn.rows .head) hY fun W' k => ⟨rfl, k.kp⟩

set_option maxRecDepth 100000 in
theorem lifted_FlightPlays (os : Os) (started : os.Started) (H : Type) (enc : TypeId × Value → H) :
    ReturnsInHanded {} Try.checked os 14 .any (Rows.flightPlaysSpec.pre6 enc Try.prog Try.f14 Rows.flightPlaysRow.domain false) (Rows.flightPlaysSpec.post enc Try.prog Try.f14 false true false false) :=
  law_lift (C := Try.checked) (bt := 4) (by kernel_rfl) started (by kernel_rfl) Try.func14 (by kernel_rfl) (by kernel_rfl) (by kernel_rfl) (by kernel_rfl) rfl
    (ChangeSpec.witness6 (enc := enc) (C := Try.checked) false ⟨#[], #[.int .i64 0, .slice none 0 0], []⟩ 8 (by kernel_rfl) (by kernel_rfl) (by kernel_rfl) (by kernel_rfl))
    (fun ds hd => by
      match ds, hd with
      | [d0, d1], _ => rfl)
    walk_FlightPlays

set_option maxRecDepth 100000 in
theorem FlightPlays_holds : Rows.FlightPlaysSaid :=
  OpenClaim.holds_of_wide 14 Try.f14 rfl rfl rfl rfl rfl rfl rfl ⟨rfl, rfl, rfl, rfl, rfl⟩ rfl rfl rfl rfl rfl (by kernel_rfl) Try.func14 (by kernel_rfl)
    (of_decide_eq_true (by kernel_rfl)) (by unfold Func.isWrapper; first | (rw [if_pos (by decide +kernel)]; kernel_rfl) | (rw [if_neg (by decide +kernel)]; exact ⟨rfl, rfl⟩))
    (fun os started H enc _ => lifted_FlightPlays os started H enc)
#print axioms FlightPlays_holds
end Go.Proofs.Ytegocoicdcpgaaa
