/- HeapPlays: for every input the law returns true, and each argument reads behind the call as it read before. No condition. -/
import Derived.Test.YtegocoicdcpgaaaHeapPlay2
import Derived.Test.YtegocoicdcpgaaaBrRow
import Derived.Test.YtegocoicdcpgaaaRows
namespace Go.Proofs.Ytegocoicdcpgaaa
open Go Go.Br

theorem ops_of {W : World} {f : Nat} {v : Value} (h : RdT PG W f 102 [v]) : ∃ (A : Option Addr) (L : List Op3) (c : Nat), v = .slice A L.length c ∧ Row W A (L.flatMap o3) := by
  obtain ⟨g, A, n, c, e, _, _, hl⟩ := rd_slice (e := 107) (z := 3) (by kernel_rfl) (by kernel_rfl) h
  injection e with e
  subst e
  obtain ⟨L, hL, hr⟩ := row_flat (w := W) (A := A) (n := n) o3_length fun i hi => by
    obtain ⟨a, es, q1, q2, q3, q4⟩ := hl i hi
    obtain ⟨c1, g1, r1⟩ := rd_field (i := 0) (off := 0) (ft := 3) (z := 3) (z' := 1) (by kernel_rfl) (by kernel_rfl) (by kernel_rfl) q4
    obtain ⟨_, g2, r2⟩ := rd_field (i := 1) (off := 1) (ft := 3) (z := 3) (z' := 1) (by kernel_rfl) (by kernel_rfl) (by kernel_rfl) q4
    obtain ⟨_, g3, r3⟩ := rd_field (i := 2) (off := 2) (ft := 3) (z := 3) (z' := 1) (by kernel_rfl) (by kernel_rfl) (by kernel_rfl) q4
    obtain ⟨x, e1, _⟩ := rd_int (k := .i64) (by kernel_rfl) r1
    obtain ⟨y, e2, _⟩ := rd_int (k := .i64) (by kernel_rfl) r2
    obtain ⟨z, e3, _⟩ := rd_int (k := .i64) (by kernel_rfl) r3
    match es, c1 with
    | [u, v, t], _ =>
      simp at e1 e2 e3
      subst e1; subst e2; subst e3
      exact ⟨⟨x, y, z⟩, a, q1, fun j v hj => q3 j v hj⟩
  exact ⟨A, L, c, by rw [hL], hr⟩

theorem walk_HeapPlays (W : World) (args : List Value) (h : ArgsOk Try.prog W Try.f12.params.toList args) : CALL Try.prog 12 args W fun v W' => v = .bool true ∧ Kp [] W W' := by
  have h' : ArgsOk PG W [3, 102] args := h
  obtain ⟨v0, r0, rfl, h0, h'⟩ := h'.cons
  obtain ⟨v1, r1, rfl, h1, h'⟩ := h'.cons
  obtain rfl := h'.nil
  obtain ⟨f0, h0⟩ := h0.one (by kernel_rfl)
  obtain ⟨f1, h1⟩ := h1.one (by kernel_rfl)
  obtain ⟨n, e0, _⟩ := rd_int (k := .i64) (by kernel_rfl) h0
  injection e0 with e0
  subst e0
  obtain ⟨A, L, c, rfl, hl⟩ := ops_of h1
  exact hplays_ok hl fun W' k => ⟨rfl, k⟩

set_option maxRecDepth 100000 in
theorem lifted_HeapPlays (os : Os) (started : os.Started) (H : Type) (enc : TypeId × Value → H) :
    ReturnsInHanded {} Try.checked os 12 .any (Rows.heapPlaysSpec.pre6 enc Try.prog Try.f12 Rows.heapPlaysRow.domain false) (Rows.heapPlaysSpec.post enc Try.prog Try.f12 false true false false) :=
  law_lift (C := Try.checked) (bt := 4) (by kernel_rfl) started (by kernel_rfl) Try.func12 (by kernel_rfl) (by kernel_rfl) (by kernel_rfl) (by kernel_rfl) rfl
    (ChangeSpec.witness6 (enc := enc) (C := Try.checked) false ⟨#[], #[.int .i64 0, .slice none 0 0], []⟩ 8 (by kernel_rfl) (by kernel_rfl) (by kernel_rfl) (by kernel_rfl))
    (fun ds hd => by
      match ds, hd with
      | [d0, d1], _ => rfl)
    walk_HeapPlays

set_option maxRecDepth 100000 in
theorem HeapPlays_holds : Rows.HeapPlaysSaid :=
  OpenClaim.holds_of_wide 12 Try.f12 rfl rfl rfl rfl rfl rfl rfl ⟨rfl, rfl, rfl, rfl, rfl⟩ rfl rfl rfl rfl rfl (by kernel_rfl) Try.func12 (by kernel_rfl)
    (of_decide_eq_true (by kernel_rfl)) (by unfold Func.isWrapper; first | (rw [if_pos (by decide +kernel)]; kernel_rfl) | (rw [if_neg (by decide +kernel)]; exact ⟨rfl, rfl⟩))
    (fun os started H enc _ => lifted_HeapPlays os started H enc)
#print axioms HeapPlays_holds
end Go.Proofs.Ytegocoicdcpgaaa
