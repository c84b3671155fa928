/- slices.Sort of numbers: a range is sorted by insertion. -/
import Derived.Test.YtccmlfekmmeloaaPdq
set_option linter.unusedVariables false
set_option linter.unusedSimpArgs false
set_option linter.unnecessarySimpa false
namespace Go.Br
open Go
attribute [local irreducible] Addr.add RD RDS RUN RUNU NILC LETB CALL CALLX CALLV

/-- A range is sorted. -/
def SrtR (a b : Nat) (D : List Int) : Prop := ∀ s t, a ≤ s → s < t → t < b → at0 D s ≤ at0 D t
/-- All but one place are sorted, and that one isn't above those behind it. -/
structure InsP (a i j : Nat) (D : List Int) : Prop where
  rest : ∀ s t, a ≤ s → s < t → t ≤ i → s ≠ j → t ≠ j → at0 D s ≤ at0 D t
  up : ∀ t, j < t → t ≤ i → at0 D j ≤ at0 D t
theorem InsP.step {a i j : Nat} {D : List Int} (h : InsP a i j D) (hj : a < j ∧ j ≤ i) (hx : at0 D j < at0 D (j - 1)) (hl : i < D.length) : InsP a i (j - 1) (swp D j (j - 1)) := by
  have sa := fun t => swp_at (D := D) (i := j) (j := j - 1) (by omega) (by omega) t
  refine ⟨fun s t h1 h2 h3 h4 h5 => ?_, fun t h1 h2 => ?_⟩
  · rw [sa, sa, if_neg h4, if_neg h5]
    by_cases e1 : s = j
    · rw [if_pos e1, if_neg (by omega)]
      exact h.rest (j - 1) t (by omega) (by omega) h3 (by omega) (by omega)
    · rw [if_neg e1]
      by_cases e2 : t = j
      · rw [if_pos e2]
        exact h.rest s (j - 1) h1 (by omega) (by omega) (by omega) (by omega)
      · rw [if_neg e2]
        exact h.rest s t h1 h2 h3 e1 e2
  · rw [sa, sa, if_pos rfl, if_neg (by omega)]
    by_cases e2 : t = j
    · rw [if_pos e2]; omega
    · rw [if_neg e2]
      exact h.up t (by omega) h2
theorem InsP.done {a i j : Nat} {D : List Int} (h : InsP a i j D) (hj : a ≤ j ∧ j ≤ i) (hx : a < j → at0 D (j - 1) ≤ at0 D j) : SrtR a (i + 1) D := fun s t h1 h2 h3 => by
  by_cases e1 : s = j
  · rw [e1]; exact h.up t (by omega) (by omega)
  by_cases e2 : t = j
  · have h4 := hx (by omega)
    rw [e2]
    by_cases e3 : s = j - 1
    · rw [e3]; exact h4
    · exact Int.le_trans (h.rest s (j - 1) h1 (by omega) (by omega) e1 (by omega)) h4
  · exact h.rest s t h1 h2 (by omega) e1 e2
section
variable {c : Ctx} {w : World} {L R : List SA} {A : Option Addr} {n k : Nat} {D : List Int} {a b : Nat}
theorem insr_ok (h : St c w (own 3 1 A n k (D.flatMap iv) :: L)) (hn : D.length = n) (hb : n ≤ 1000000) (hab : a ≤ b) (hbn : b ≤ n) {Q : Value → World → Prop}
    (hk : ∀ D' w', Mix a b D D' → SrtR a b D' → St c w' (own 3 1 A n k (D'.flatMap iv) :: L) → Q (.tuple #[]) w') :
    CALL PG 147 [.slice A n k, .int .i64 (a : Int), .int .i64 (b : Int)] w Q := by
  refine call147 ?_
  unfold N147
  refine leti (y := ((a + 1 : Nat) : Int)) (by rw [wrap_i64 (by omega) (by omega)]; omega) ?_
  refine ⟨fun m i w' => ∃ (i' : Nat) (D' : List Int), i = i' ∧ m = b - i' ∧ a < i' ∧ Mix a b D D' ∧ SrtR a i' D' ∧ St c w' (own 3 1 A n k (D'.flatMap iv) :: L), ⟨_, a + 1, D, rfl, rfl, by omega, .refl _ _ _, fun s t h1 h2 h3 => by omega, h⟩, ?_⟩
  clear h
  rintro m _ w' ⟨i, D', rfl, rfl, hai, hM, hS, h⟩
  refine ifd (fun hlt => leti rfl ?_) fun hge => hk D' _ hM (fun s t h1 h2 h3 => hS s t h1 h2 (by omega)) h
  refine ⟨fun m2 j w' => ∃ (j' : Nat) (D' : List Int), j = j' ∧ m2 = j' ∧ a ≤ j' ∧ j' ≤ i ∧ Mix a b D D' ∧ InsP a i j' D' ∧ St c w' (own 3 1 A n k (D'.flatMap iv) :: L), ⟨_, i, D', rfl, rfl, by omega, Nat.le_refl _, hM, ⟨fun s t h1 h2 h3 h4 h5 => hS s t h1 h2 (by omega), fun t h1 h2 => by omega⟩, h⟩, ?_⟩
  clear h hM hS D'
  rintro m2 _ w' ⟨j, D', rfl, rfl, haj, hji, hM, hI, h⟩
  have l : D'.length = n := by rw [hM.len, hn]
  have next : IntKind.i64.wrap ((i : Int) + 1) = ((i + 1 : Nat) : Int) := by rw [wrap_i64 (by omega) (by omega)]; omega
  refine ifd (fun hgt => ?_) fun hle => leti next ⟨_, by omega, i + 1, D', rfl, rfl, by omega, hM, hI.done ⟨haj, hji⟩ (fun e => by omega), h.drew⟩
  have e1 : IntKind.i64.wrap ((m2 : Int) - 1) = ((m2 - 1 : Nat) : Int) := by rw [wrap_i64 (by omega) (by omega)]; omega
  rw [e1]
  have h := h.drew
  refine h.arrR .head l (by omega) ?_
  refine h.arrR .head l (by omega) ?_
  refine less_ok ?_
  (repeat (first | apply Exists.intro (α := Int) | apply Exists.intro (α := Bool) | apply Exists.intro (α := ByteArray) | (apply Exists.intro (α := Option Addr); apply Exists.intro (α := Nat); apply Exists.intro (α := Nat)) | apply Exists.intro (α := Option Addr) | apply Exists.intro (α := Value)))
  refine ⟨rfl, ?_⟩
  refine ifd (fun hx => ?_) fun hx => leti next ⟨_, by omega, i + 1, D', rfl, rfl, by omega, hM, hI.done ⟨haj, hji⟩ (fun e => by omega), h⟩
  have h := h.drew
  refine h.arrR .head l (by omega) ?_
  refine h.arrR .head l (by omega) ?_
  refine h.arrW .head l (by omega) fun w' h => ?_
  refine h.arrW .head (by rw [List.length_set]; exact l) (by omega) fun w' h => ?_
  exact leti rfl ⟨m2 - 1, by omega, m2 - 1, swp D' m2 (m2 - 1), rfl, rfl, by omega, by omega, hM.trans (Mix.swp ⟨by omega, by omega⟩ ⟨by omega, by omega⟩ (by omega)), hI.step ⟨by omega, hji⟩ hx (by omega), h⟩
end
end Go.Br
