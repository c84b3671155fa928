/- SchedFits: for every input the law returns true, and each argument reads behind the call as it read before. No condition. -/
import Derived.Test.YtggajodoaooafaaSchedLaw
import Derived.Test.YtggajodoaooafaaBrRow
import Derived.Test.YtggajodoaooafaaRows
namespace Go.Proofs.Ytggajodoaooafaa
open Go Go.Br

theorem paths_of {W : World} {f : Nat} {v : Value} (h : RdT PG W f 93 [v]) : ∃ (A : Option Addr) (L : List Pth) (c : Nat), v = .slice A L.length c ∧ Row W A (L.flatMap pth) := by
  obtain ⟨g, A, n, c, e, _, _, hl⟩ := rd_slice (e := 103) (z := 7) (by kernel_rfl) (by kernel_rfl) h
  injection e with e
  subst e
  obtain ⟨L, hL, hr⟩ := row_flat (w := W) (A := A) (n := n) pth_length fun i hi => by
    obtain ⟨a, es, q1, q2, q3, q4⟩ := hl i hi
    obtain ⟨c1, g1, r1⟩ := rd_field (i := 0) (off := 0) (ft := 3) (z := 7) (z' := 1) (by kernel_rfl) (by kernel_rfl) (by kernel_rfl) q4
    obtain ⟨_, g2, r2⟩ := rd_field (i := 1) (off := 1) (ft := 4) (z := 7) (z' := 1) (by kernel_rfl) (by kernel_rfl) (by kernel_rfl) q4
    obtain ⟨_, g3, r3⟩ := rd_field (i := 2) (off := 2) (ft := 4) (z := 7) (z' := 1) (by kernel_rfl) (by kernel_rfl) (by kernel_rfl) q4
    obtain ⟨_, g4, r4⟩ := rd_field (i := 3) (off := 3) (ft := 4) (z := 7) (z' := 1) (by kernel_rfl) (by kernel_rfl) (by kernel_rfl) q4
    obtain ⟨_, g5, r5⟩ := rd_field (i := 4) (off := 4) (ft := 3) (z := 7) (z' := 1) (by kernel_rfl) (by kernel_rfl) (by kernel_rfl) q4
    obtain ⟨_, g6, r6⟩ := rd_field (i := 5) (off := 5) (ft := 3) (z := 7) (z' := 1) (by kernel_rfl) (by kernel_rfl) (by kernel_rfl) q4
    obtain ⟨_, g7, r7⟩ := rd_field (i := 6) (off := 6) (ft := 3) (z := 7) (z' := 1) (by kernel_rfl) (by kernel_rfl) (by kernel_rfl) q4
    obtain ⟨x1, e1, _⟩ := rd_int (k := .i64) (by kernel_rfl) r1
    obtain ⟨x2, e2⟩ := rd_bool (by kernel_rfl) r2
    obtain ⟨x3, e3⟩ := rd_bool (by kernel_rfl) r3
    obtain ⟨x4, e4⟩ := rd_bool (by kernel_rfl) r4
    obtain ⟨x5, e5, _⟩ := rd_int (k := .i64) (by kernel_rfl) r5
    obtain ⟨x6, e6, _⟩ := rd_int (k := .i64) (by kernel_rfl) r6
    obtain ⟨x7, e7, _⟩ := rd_int (k := .i64) (by kernel_rfl) r7
    match es, c1 with
    | [u1, u2, u3, u4, u5, u6, u7], _ =>
      simp at e1 e2 e3 e4 e5 e6 e7
      subst e1; subst e2; subst e3; subst e4; subst e5; subst e6; subst e7
      exact ⟨⟨x1, x2, x3, x4, x5, x6, x7⟩, a, q1, fun j v hj => q3 j v hj⟩
  exact ⟨A, L, c, by rw [hL], hr⟩
theorem ask_of {W : World} {v : Value} (h : ArgOk PG W 92 v) : ∃ x x1 x2 : Int, v = .agg #[.int .i64 x, .int .i64 x1, .int .i64 x2] := by
  obtain ⟨f, cs, h1, h2, _, h3⟩ := h
  obtain ⟨xs, rfl⟩ := h3 (by kernel_rfl)
  obtain ⟨c1, g1, r1⟩ := rd_field (i := 0) (off := 0) (ft := 90) (z := 3) (z' := 1) (by kernel_rfl) (by kernel_rfl) (by kernel_rfl) h1
  obtain ⟨_, g2, r2⟩ := rd_field (i := 1) (off := 1) (ft := 3) (z := 3) (z' := 1) (by kernel_rfl) (by kernel_rfl) (by kernel_rfl) h1
  obtain ⟨_, g3, r3⟩ := rd_field (i := 2) (off := 2) (ft := 3) (z := 3) (z' := 1) (by kernel_rfl) (by kernel_rfl) (by kernel_rfl) h1
  obtain ⟨x1, e1, _⟩ := rd_int (k := .i64) (by kernel_rfl) r1
  obtain ⟨x2, e2, _⟩ := rd_int (k := .i64) (by kernel_rfl) r2
  obtain ⟨x3, e3, _⟩ := rd_int (k := .i64) (by kernel_rfl) r3
  match cs, c1 with
  | [u1, u2, u3], _ =>
    simp at e1 e2 e3
    subst e1; subst e2; subst e3
    simp only [Value.cells] at h2
    exact ⟨x1, x2, x3, by rw [← Array.toArray_toList (xs := xs), h2]⟩

theorem walk_SchedFits (W : World) (args : List Value) (h : ArgsOk Try.prog W Try.f10.params.toList args) : CALL Try.prog 10 args W fun v W' => v = .bool true ∧ Kp [] W W' := by
  have h' : ArgsOk PG W [92, 93] args := h
  obtain ⟨v0, r0, rfl, h0, h'⟩ := h'.cons
  obtain ⟨v1, r1, rfl, h1, h'⟩ := h'.cons
  obtain rfl := h'.nil
  obtain ⟨x, x1, x2, rfl⟩ := ask_of h0
  obtain ⟨f1, h1⟩ := h1.one (by kernel_rfl)
  obtain ⟨A, l, c, rfl, hl⟩ := paths_of h1
  have hs := St.start (w := W) (φ := fun w => Row w A (l.flatMap pth)) fun w' hw => hl.same hw
  exact sfits_ok hs (RdIn.rows .head) fun W' k => ⟨rfl, k.kp⟩

set_option maxRecDepth 100000 in
theorem lifted_SchedFits (os : Os) (started : os.Started) (H : Type) (enc : TypeId × Value → H) :
    ReturnsInHanded {} Try.checked os 10 .any (Rows.schedFitsSpec.pre6 enc Try.prog Try.f10 Rows.schedFitsRow.domain false) (Rows.schedFitsSpec.post enc Try.prog Try.f10 false true false false) :=
  law_lift (C := Try.checked) (bt := 4) (by kernel_rfl) started (by kernel_rfl) Try.func10 (by kernel_rfl) (by kernel_rfl) (by kernel_rfl) (by kernel_rfl) rfl
    (ChangeSpec.witness6 (enc := enc) (C := Try.checked) false ⟨#[], #[.agg #[.int .i64 0, .int .i64 0, .int .i64 0], .slice none 0 0], []⟩ 8 (by kernel_rfl) (by kernel_rfl) (by kernel_rfl) (by kernel_rfl))
    (fun ds hd => by
      match ds, hd with
      | [d0, d1], _ => rfl)
    walk_SchedFits

set_option maxRecDepth 100000 in
theorem SchedFits_holds : Rows.SchedFitsSaid :=
  OpenClaim.holds_of_wide 10 Try.f10 rfl rfl rfl rfl rfl rfl rfl ⟨rfl, rfl, rfl, rfl, rfl⟩ rfl rfl rfl rfl rfl (by kernel_rfl) Try.func10 (by kernel_rfl)
    (of_decide_eq_true (by kernel_rfl)) (by unfold Func.isWrapper; first | (rw [if_pos (by decide +kernel)]; kernel_rfl) | (rw [if_neg (by decide +kernel)]; exact ⟨rfl, rfl⟩))
    (fun os started H enc _ => lifted_SchedFits os started H enc)
#print axioms SchedFits_holds
end Go.Proofs.Ytggajodoaooafaa
