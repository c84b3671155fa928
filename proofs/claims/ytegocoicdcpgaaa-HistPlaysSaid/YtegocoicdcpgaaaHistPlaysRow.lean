/- HistPlays: for every input the law returns true, and each argument reads behind the call as it read before. No condition. -/
import Derived.Test.YtegocoicdcpgaaaHistPlay2
import Derived.Test.YtegocoicdcpgaaaBrRow
import Derived.Test.YtegocoicdcpgaaaRows
namespace Go.Proofs.Ytegocoicdcpgaaa
open Go Go.Br

theorem pairs_of {W : World} {f : Nat} {v : Value} (h : RdT PG W f 53 [v]) : ∃ A L c, v = .slice A L.length c ∧ Ps W A L := by
  obtain ⟨g, A, n, c, e, _, _, hl⟩ := rd_slice (e := 59) (z := 2) (by kernel_rfl) (by kernel_rfl) h
  injection e with e
  subst e
  obtain ⟨L, hL, hr⟩ := row_flat (w := W) (A := A) (n := n) pr_length fun i hi => by
    obtain ⟨a, es, q1, q2, q3, q4⟩ := hl i hi
    obtain ⟨c1, g1, r1⟩ := rd_field (i := 0) (off := 0) (ft := 3) (z := 2) (z' := 1) (by kernel_rfl) (by kernel_rfl) (by kernel_rfl) q4
    obtain ⟨_, g2, r2⟩ := rd_field (i := 1) (off := 1) (ft := 3) (z := 2) (z' := 1) (by kernel_rfl) (by kernel_rfl) (by kernel_rfl) q4
    obtain ⟨x, e1, _⟩ := rd_int (k := .i64) (by kernel_rfl) r1
    obtain ⟨y, e2, _⟩ := rd_int (k := .i64) (by kernel_rfl) r2
    match es, c1 with
    | [u, v], _ =>
      simp at e1 e2
      subst e1; subst e2
      exact ⟨(x, y), a, q1, fun j v hj => q3 j v hj⟩
  exact ⟨A, L, c, by rw [hL], hr⟩

theorem walk_HistPlays (W : World) (args : List Value) (h : ArgsOk Try.prog W Try.f7.params.toList args) : CALL Try.prog 7 args W fun v W' => v = .bool true ∧ Kp [] W W' := by
  have h' : ArgsOk PG W [53, 53, 3] args := h
  obtain ⟨v0, r0, rfl, h0, h'⟩ := h'.cons
  obtain ⟨v1, r1, rfl, h1, h'⟩ := h'.cons
  obtain ⟨v2, r2, rfl, h2, h'⟩ := h'.cons
  obtain rfl := h'.nil
  obtain ⟨f0, h0⟩ := h0.one (by kernel_rfl)
  obtain ⟨f1, h1⟩ := h1.one (by kernel_rfl)
  obtain ⟨f2, h2⟩ := h2.one (by kernel_rfl)
  obtain ⟨A, L, c, rfl, hl⟩ := pairs_of h0
  obtain ⟨B, M, d, rfl, hm⟩ := pairs_of h1
  obtain ⟨n, e2, _⟩ := rd_int (k := .i64) (by kernel_rfl) h2
  injection e2 with e2
  subst e2
  exact plays_ok hl hm fun W' k => ⟨rfl, k⟩

set_option maxRecDepth 100000 in
theorem lifted_HistPlays (os : Os) (started : os.Started) (H : Type) (enc : TypeId × Value → H) :
    ReturnsInHanded {} Try.checked os 7 .any (Rows.histPlaysSpec.pre6 enc Try.prog Try.f7 Rows.histPlaysRow.domain false) (Rows.histPlaysSpec.post enc Try.prog Try.f7 false true false false) :=
  law_lift (C := Try.checked) (bt := 4) (by kernel_rfl) started (by kernel_rfl) Try.func7 (by kernel_rfl) (by kernel_rfl) (by kernel_rfl) (by kernel_rfl) rfl
    (ChangeSpec.witness6 (enc := enc) (C := Try.checked) false ⟨#[], #[.slice none 0 0, .slice none 0 0, .int .i64 0], []⟩ 8 (by kernel_rfl) (by kernel_rfl) (by kernel_rfl) (by kernel_rfl))
    (fun ds hd => by
      match ds, hd with
      | [d0, d1, d2], _ => rfl)
    walk_HistPlays

set_option maxRecDepth 100000 in
theorem HistPlays_holds : Rows.HistPlaysSaid :=
  OpenClaim.holds_of_wide 7 Try.f7 rfl rfl rfl rfl rfl rfl rfl ⟨rfl, rfl, rfl, rfl, rfl⟩ rfl rfl rfl rfl rfl (by kernel_rfl) Try.func7 (by kernel_rfl)
    (of_decide_eq_true (by kernel_rfl)) (by unfold Func.isWrapper; first | (rw [if_pos (by decide +kernel)]; kernel_rfl) | (rw [if_neg (by decide +kernel)]; exact ⟨rfl, rfl⟩))
    (fun os started H enc _ => lifted_HistPlays os started H enc)
#print axioms HistPlays_holds
end Go.Proofs.Ytegocoicdcpgaaa
