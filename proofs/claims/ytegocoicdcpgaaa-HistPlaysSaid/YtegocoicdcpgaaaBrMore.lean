/- Slices of structs, fields of what is given, arrays that are values. -/
import Derived.Test.YtegocoicdcpgaaaBrRow
import Derived.Test.YtegocoicdcpgaaaBrSlice
set_option linter.unusedVariables false
set_option linter.unusedSimpArgs false
namespace Go.Br
open Go

/-- A field of a struct that is given. -/
theorem rd_field {P : Program} {w : World} {f : Nat} {t ft : TypeId} {i off z z' : Nat} {cs : List Value} (hf : (fieldOf P t i).map (fun f => (f.type, f.offset)) = some (ft, off)) (hz : P.cellsOf t = z) (hz' : P.cellsOf ft = z') (h : RdT P w f t cs) :
    cs.length = z ∧ ∃ f', RdT P w f' ft ((cs.drop off).take z') := by
  cases f with
  | zero => exact h.elim
  | succ f =>
    unfold fieldOf at hf
    split at hf
    · rename_i fs hu
      unfold RdT at h; rw [hu] at h
      obtain ⟨h1, h2⟩ := h
      cases hg : fs[i]? with
      | none => rw [hg] at hf; cases hf
      | some fd =>
        rw [hg] at hf
        simp at hf
        have := h2 fd (by simpa using Array.mem_of_getElem? hg)
        rw [hf.1, hf.2, hz'] at this
        exact ⟨by rw [h1, hz], f, this⟩
    · cases hf

/-- An element of an array that is a value. -/
theorem idx_arr {P : Program} {T e : TypeId} {n r : Nat} {cs : List Value} {v : Value} {w : World} (hu : P.underlying T = some (.array n e)) (hz : sizeAt P e = some 1) (ha : ldT P e = true) (hr : r < n) (hv : cs[r]? = some v) :
    (Instr.index T (.agg cs.toArray) (.int .i64 (r : Int))).run P w = .ok v w := by
  simp only [ldT, Bool.and_eq_true, Bool.not_eq_true'] at ha
  have hag : (isAgg e).run P w = .ok false w := by
    have h1 := ha.1
    unfold isAggT at h1
    cases hu : P.underlying e with
    | none => rw [hu] at ha; cases ha.2
    | some d =>
      rw [hu] at h1
      simp only [isAgg, Sem.run_bind, run_und hu, Result.andThen_ok]
      cases d <;> first | rfl | cases h1
  unfold sizeAt at hz
  cases hi : P.info? e with
  | none => simp [hi] at hz
  | some i =>
    simp [hi] at hz
    simp [Instr.index, asIntOf, run_und hu, hr, part, hag, sizeOf, run_info hi, hz, hv]

/-- The cells of a row of structs. -/
theorem flat_length {α : Type} {g : α → List Value} {z : Nat} (hz : ∀ x, (g x).length = z) (L : List α) : (L.flatMap g).length = L.length * z := by
  induction L with
  | nil => simp
  | cons x L ih => simp only [List.flatMap_cons, List.length_append, hz, ih, List.length_cons, Nat.add_mul, Nat.one_mul]; omega
theorem flat_get {α : Type} {g : α → List Value} {z : Nat} (hz : ∀ x, (g x).length = z) : ∀ {L : List α} {i j : Nat} {x : α}, L[i]? = some x → j < z → (L.flatMap g)[i * z + j]? = (g x)[j]? := by
  intro L
  induction L with
  | nil => intro i j x h _; simp at h
  | cons y L ih =>
    intro i j x h hj
    rw [List.flatMap_cons]
    cases i with
    | zero =>
      simp at h; subst h
      rw [Nat.zero_mul, Nat.zero_add, List.getElem?_append_left (by rw [hz]; exact hj)]
    | succ i =>
      simp at h
      rw [List.getElem?_append_right (by rw [hz, Nat.add_mul]; omega), hz, show (i + 1) * z + j - z = i * z + j by rw [Nat.add_mul]; omega]
      exact ih h hj
theorem row_flat {α : Type} {w : World} {A : Option Addr} {n z : Nat} {g : α → List Value} (hz : ∀ x, (g x).length = z) (h : ∀ i, i < n → ∃ x a, A = some a ∧ ∀ j v, (g x)[j]? = some v → w.cell? (a.add (i * z + j)) = some v) :
    ∃ L : List α, L.length = n ∧ Row w A (L.flatMap g) := by
  obtain ⟨L, hl, hx⟩ := exists_list (p := fun i x => ∃ a, A = some a ∧ ∀ j v, (g x)[j]? = some v → w.cell? (a.add (i * z + j)) = some v) n h
  refine ⟨L, hl, fun k v hk => ?_⟩
  have hk2 : k < L.length * z := by
    rw [← flat_length hz L]
    exact (List.getElem?_eq_some_iff.1 hk).1
  rcases Nat.eq_zero_or_pos z with h0 | h0
  · subst h0; omega
  have hd : k / z < L.length := (Nat.div_lt_iff_lt_mul h0).2 hk2
  obtain ⟨x, e⟩ : ∃ x, L[k / z]? = some x := ⟨L[k / z], by simp [hd]⟩
  have hm : k / z * z + k % z = k := by rw [Nat.mul_comm]; exact Nat.div_add_mod k z
  have := flat_get hz e (Nat.mod_lt k h0)
  rw [hm, hk] at this
  obtain ⟨a, h1, h2⟩ := hx _ x e
  refine ⟨a, h1, ?_⟩
  have := h2 _ v this.symm
  rwa [hm] at this
end Go.Br
