/- LinkPlays: for every input the law returns true, and each argument reads behind the call as it read before. No condition. -/
import Derived.Test.YtggajodoaooafaaLinkPlay2
import Derived.Test.YtggajodoaooafaaBrRow
import Derived.Test.YtggajodoaooafaaRows
namespace Go.Proofs.Ytggajodoaooafaa
open Go Go.Br

theorem model_of {W : World} {v : Value} (h : ArgOk PG W 64 v) : ∃ m : Mo, v = mov m := by
  obtain ⟨f, cs, h1, h2, _, h3⟩ := h
  obtain ⟨xs, rfl⟩ := h3 (by kernel_rfl)
  obtain ⟨c1, g1, r1⟩ := rd_field (i := 0) (off := 0) (ft := 3) (z := 6) (z' := 1) (by kernel_rfl) (by kernel_rfl) (by kernel_rfl) h1
  obtain ⟨_, g2, r2⟩ := rd_field (i := 1) (off := 1) (ft := 3) (z := 6) (z' := 1) (by kernel_rfl) (by kernel_rfl) (by kernel_rfl) h1
  obtain ⟨_, g3, r3⟩ := rd_field (i := 2) (off := 2) (ft := 3) (z := 6) (z' := 1) (by kernel_rfl) (by kernel_rfl) (by kernel_rfl) h1
  obtain ⟨_, g4, r4⟩ := rd_field (i := 3) (off := 3) (ft := 3) (z := 6) (z' := 1) (by kernel_rfl) (by kernel_rfl) (by kernel_rfl) h1
  obtain ⟨_, g5, r5⟩ := rd_field (i := 4) (off := 4) (ft := 3) (z := 6) (z' := 1) (by kernel_rfl) (by kernel_rfl) (by kernel_rfl) h1
  obtain ⟨_, g6, r6⟩ := rd_field (i := 5) (off := 5) (ft := 3) (z := 6) (z' := 1) (by kernel_rfl) (by kernel_rfl) (by kernel_rfl) h1
  obtain ⟨x1, e1, _⟩ := rd_int (k := .i64) (by kernel_rfl) r1
  obtain ⟨x2, e2, _⟩ := rd_int (k := .i64) (by kernel_rfl) r2
  obtain ⟨x3, e3, _⟩ := rd_int (k := .i64) (by kernel_rfl) r3
  obtain ⟨x4, e4, _⟩ := rd_int (k := .i64) (by kernel_rfl) r4
  obtain ⟨x5, e5, _⟩ := rd_int (k := .i64) (by kernel_rfl) r5
  obtain ⟨x6, e6, _⟩ := rd_int (k := .i64) (by kernel_rfl) r6
  match cs, c1 with
  | [u1, u2, u3, u4, u5, u6], _ =>
    simp at e1 e2 e3 e4 e5 e6
    subst e1; subst e2; subst e3; subst e4; subst e5; subst e6
    simp only [Value.cells] at h2
    exact ⟨⟨x1, x2, x3, x4, x5, x6⟩, by rw [← Array.toArray_toList (xs := xs), h2]⟩
theorem its_of {W : World} {A : Option Addr} : ∀ {n : Nat}, BRows W A n → ∃ l : List It, l.length = n ∧ (∀ i x, l[i]? = some x → ∃ a, A = some a ∧ W.cell? (a.add i) = some (.slice x.A x.bs.length x.k)) ∧ ∀ x ∈ l, Row W x.A (bvs x.bs)
  | 0, _ => ⟨[], rfl, fun i x h => by simp at h, fun x h => by cases h⟩
  | n + 1, h => by
    obtain ⟨l, hl, h1, h2⟩ := its_of (n := n) fun i hi => h i (by omega)
    obtain ⟨a, B, m, c, xs, q1, q2, _, q3, q4⟩ := h n (by omega)
    refine ⟨l ++ [⟨0, 0, B, c, xs⟩], by simp [hl], fun i x hx => ?_, fun x hx => ?_⟩
    · by_cases hi : i < l.length
      · rw [List.getElem?_append_left hi] at hx
        exact h1 i x hx
      · rw [List.getElem?_append_right (by omega)] at hx
        have hin : i = n := by
          have := (List.getElem?_eq_some_iff.1 hx).1
          simp at this
          omega
        subst hin
        rw [hl, Nat.sub_self] at hx
        injection hx with hx
        subst hx
        exact ⟨a, q1, by rw [q2, ← q3]⟩
    · simp only [List.mem_append, List.mem_singleton] at hx
      rcases hx with hx | rfl
      · exact h2 x hx
      · exact q4
theorem walk_LinkPlays (W : World) (args : List Value) (h : ArgsOk Try.prog W Try.f6.params.toList args) : CALL Try.prog 6 args W fun v W' => v = .bool true ∧ Kp [] W W' := by
  have h' : ArgsOk PG W [64, 56, 65] args := h
  obtain ⟨v0, r0, rfl, h0, h'⟩ := h'.cons
  obtain ⟨v1, r1, rfl, h1, h'⟩ := h'.cons
  obtain ⟨v2, r2, rfl, h2, h'⟩ := h'.cons
  obtain rfl := h'.nil
  obtain ⟨m, rfl⟩ := model_of h0
  obtain ⟨f1, h1⟩ := h1.one (by kernel_rfl)
  obtain ⟨f2, h2⟩ := h2.one (by kernel_rfl)
  obtain ⟨n1, e1, _⟩ := rd_int (k := .u64) (by kernel_rfl) h1
  injection e1 with e1
  subst e1
  obtain ⟨A, n, c, rfl, hl⟩ := rd_brows (e := 30) (u := 5) (by kernel_rfl) (by kernel_rfl) (by kernel_rfl) (by kernel_rfl) (by kernel_rfl) h2
  obtain ⟨l, rfl, g1, g2⟩ := its_of hl
  have hrow : Row W A (l.flatMap bsv) := row_of (z := 1) (fun x => rfl) fun i y hy => by
    obtain ⟨a, ha, hc⟩ := g1 i y hy
    refine ⟨a, ha, fun j v hj => ?_⟩
    match j, hj with
    | 0, hj => simp [bsv] at hj; subst hj; simpa using hc
  have hs := St.start (w := W) (φ := fun w => Row w A (l.flatMap bsv) ∧ ∀ x ∈ l, Row w x.A (bvs x.bs)) fun w' hw => ⟨hrow.same hw, fun x hx => (g2 x hx).same hw⟩
  have r1 : RdIn [Br.ro fun w => Row w A (l.flatMap bsv) ∧ ∀ x ∈ l, Row w x.A (bvs x.bs)] A (l.flatMap bsv) := fun c w h => (h.ro .head).1
  have r2 : ∀ x ∈ l, RdIn [Br.ro fun w => Row w A (l.flatMap bsv) ∧ ∀ x ∈ l, Row w x.A (bvs x.bs)] x.A (bvs x.bs) := fun x hx c w h => (h.ro .head).2 x hx
  exact plays_ok hs r1 r2 fun W' k => ⟨rfl, k.kp⟩

set_option maxRecDepth 100000 in
theorem lifted_LinkPlays (os : Os) (started : os.Started) (H : Type) (enc : TypeId × Value → H) :
    ReturnsInHanded {} Try.checked os 6 .any (Rows.linkPlaysSpec.pre6 enc Try.prog Try.f6 Rows.linkPlaysRow.domain false) (Rows.linkPlaysSpec.post enc Try.prog Try.f6 false true false false) :=
  law_lift (C := Try.checked) (bt := 4) (by kernel_rfl) started (by kernel_rfl) Try.func6 (by kernel_rfl) (by kernel_rfl) (by kernel_rfl) (by kernel_rfl) rfl
    (ChangeSpec.witness6 (enc := enc) (C := Try.checked) false ⟨#[], #[.agg #[.int .i64 0, .int .i64 0, .int .i64 0, .int .i64 0, .int .i64 0, .int .i64 0], .int .u64 0, .slice none 0 0], []⟩ 8 (by kernel_rfl) (by kernel_rfl) (by kernel_rfl) (by kernel_rfl))
    (fun ds hd => by
      match ds, hd with
      | [d0, d1, d2], _ => rfl)
    walk_LinkPlays

set_option maxRecDepth 100000 in
theorem LinkPlays_holds : Rows.LinkPlaysSaid :=
  OpenClaim.holds_of_wide 6 Try.f6 rfl rfl rfl rfl rfl rfl rfl ⟨rfl, rfl, rfl, rfl, rfl⟩ rfl rfl rfl rfl rfl (by kernel_rfl) Try.func6 (by kernel_rfl)
    (of_decide_eq_true (by kernel_rfl)) (by unfold Func.isWrapper; first | (rw [if_pos (by decide +kernel)]; kernel_rfl) | (rw [if_neg (by decide +kernel)]; exact ⟨rfl, rfl⟩))
    (fun os started H enc _ => lifted_LinkPlays os started H enc)
#print axioms LinkPlays_holds
end Go.Proofs.Ytggajodoaooafaa
