/- slices.Sort of numbers: those that equal the pivot are parted from those behind. -/
import Derived.Test.YtccmlfekmmeloaaNPdq3
import Derived.Test.YtccmlfekmmeloaaPdq
set_option linter.unusedVariables false
set_option linter.unusedSimpArgs false
set_option linter.unnecessarySimpa false
namespace Go.Br
open Go
attribute [local irreducible] Addr.add RD RDS RUN RUNU NILC LETB CALL CALLX CALLV

structure PE (a b : Nat) (D : List Int) (pv : Int) (i j : Nat) (D' : List Int) : Prop where
  mix : Mix a b D D'
  pa : at0 D' a = pv
  ai : a < i
  ij : i ≤ j + 1
  jb : j < b
  lo : ∀ t, a < t → t < i → at0 D' t ≤ pv
  hi : ∀ t, j < t → t < b → pv < at0 D' t
theorem PE.up {a b : Nat} {D : List Int} {pv : Int} {i j : Nat} {D' : List Int} (h : PE a b D pv i j D') (hij : i ≤ j) (hx : at0 D' i ≤ pv) : PE a b D pv (i + 1) j D' :=
  ⟨h.mix, h.pa, by have := h.ai; omega, by omega, h.jb, fun t t1 t2 => by
    by_cases e : t = i
    · subst e; exact hx
    · exact h.lo t t1 (by omega), h.hi⟩
theorem PE.down {a b : Nat} {D : List Int} {pv : Int} {i j : Nat} {D' : List Int} (h : PE a b D pv i j D') (hij : i ≤ j) (hx : pv < at0 D' j) : PE a b D pv i (j - 1) D' :=
  ⟨h.mix, h.pa, h.ai, by have := h.ai; omega, by have := h.jb; omega, h.lo, fun t t1 t2 => by
    by_cases e : t = j
    · subst e; exact hx
    · exact h.hi t (by have := h.ai; omega) t2⟩
theorem PE.swap {a b : Nat} {D : List Int} {pv : Int} {i j : Nat} {D' : List Int} (h : PE a b D pv i j D') (hij : i ≤ j) (h1 : pv < at0 D' i) (h2 : at0 D' j ≤ pv) (hb : b ≤ D'.length) : PE a b D pv (i + 1) (j - 1) (swp D' i j) ∧ i < j := by
  have hlt : i < j := by
    rcases Nat.lt_or_ge i j with h3 | h3
    · exact h3
    · have : i = j := by omega
      subst this; omega
  have hai := h.ai
  have hjb := h.jb
  have sa := fun t => swp_at (D := D') (i := i) (j := j) (by omega) (by omega) t
  refine ⟨⟨h.mix.trans (Mix.swp ⟨by omega, by omega⟩ ⟨by omega, hjb⟩ hb), ?_, by omega, by omega, by omega, fun t t1 t2 => ?_, fun t t1 t2 => ?_⟩, hlt⟩
  · rw [sa, if_neg (by omega), if_neg (by omega)]; exact h.pa
  · rw [sa, if_neg (by omega)]
    split
    · exact h2
    · exact h.lo t t1 (by omega)
  · rw [sa]
    split
    · exact h1
    · rw [if_neg (by omega)]
      exact h.hi t (by omega) t2
section
variable {c : Ctx} {w : World} {L R : List SA} {A : Option Addr} {n k : Nat} {D : List Int} {a b i j : Nat} {pv : Int} {D' : List Int}
theorem parteq_ok (h : St c w (own 3 1 A n k (D.flatMap iv) :: L)) (hn : D.length = n) (hb : n ≤ 1000000) {p : Nat} (hp : a ≤ p ∧ p < b) (hbn : b ≤ n) {Q : Value → World → Prop}
    (hk : ∀ (D' : List Int) (m : Nat) w', Mix a b D D' → a < m → m ≤ b → (∀ t, a ≤ t → t < m → at0 D' t ≤ at0 D p) → (∀ t, m ≤ t → t < b → at0 D p < at0 D' t) → St c w' (own 3 1 A n k (D'.flatMap iv) :: L) → Q (.int .i64 (m : Int)) w') :
    CALL PG 154 [.slice A n k, .int .i64 (a : Int), .int .i64 (b : Int), .int .i64 (p : Int)] w Q := by
  refine call154 ?_
  unfold N154
  have h := h.drew
  refine h.arrR .head hn (by omega) ?_
  refine h.arrR .head hn (by omega) ?_
  refine h.arrW .head hn (by omega) fun w' h => ?_
  refine h.arrW .head (by rw [List.length_set]; exact hn) (by omega) fun w' h => ?_
  have h : St c w' (own 3 1 A n k ((swp D a p).flatMap iv) :: L) := h
  have sa := fun t => swp_at (D := D) (i := a) (j := p) (by omega) (by omega) t
  have hP : PE a b D (at0 D p) (a + 1) (b - 1) (swp D a p) := by
    refine ⟨Mix.swp ⟨Nat.le_refl _, by omega⟩ hp (by omega), ?_, by omega, by omega, by omega, fun t t1 t2 => by omega, fun t t1 t2 => by omega⟩
    rw [sa]
    split
    · rename_i e; rw [← e]
    · rw [if_pos rfl]
  generalize at0 D p = pv at *
  generalize swp D a p = D1 at *
  have lD : ∀ {i j : Nat} {D' : List Int}, PE a b D pv i j D' → D'.length = n := fun h => by rw [h.mix.len, hn]
  refine leti (y := ((a + 1 : Nat) : Int)) (by rw [wrap_i64 (by omega) (by omega)]; omega) (leti (y := ((b - 1 : Nat) : Int)) (by rw [wrap_i64 (by omega) (by omega)]; omega) ?_)
  refine ⟨fun m x y w' => ∃ (i j : Nat) (D' : List Int), x = i ∧ y = j ∧ m = j ∧ PE a b D pv i j D' ∧ St c w' (own 3 1 A n k (D'.flatMap iv) :: L), ⟨_, a + 1, b - 1, _, rfl, rfl, rfl, hP, h⟩, ?_⟩
  clear h hP
  rintro m _ _ w' ⟨i, j, D', rfl, rfl, rfl, hP, h⟩
  have l := lD hP
  refine ⟨fun x w' => ∃ i' : Nat, x = i' ∧ PE a b D pv i' m D' ∧ (i' ≤ m → pv < at0 D' i') ∧ St c w' (own 3 1 A n k (D'.flatMap iv) :: L), ⟨fun q x w' => ∃ i' : Nat, x = i' ∧ q = b - i' ∧ PE a b D pv i' m D' ∧ St c w' (own 3 1 A n k (D'.flatMap iv) :: L), ⟨_, i, rfl, rfl, hP, h⟩, ?_⟩, ?_⟩
  · clear h hP
    rintro q _ w' ⟨i, rfl, rfl, hP, h⟩
    have hj := hP.jb
    have ha := hP.ai
    have hij := hP.ij
    have h := h.drew
    refine ifd (fun hle => ?_) fun hgt => ⟨i, rfl, hP, fun e => absurd e (by omega), h⟩
    refine h.arrR .head l (by omega) ?_
    refine h.arrR .head l (by omega) ?_
    rw [hP.pa]
    refine less_ok ?_
    (repeat (first | apply Exists.intro (α := Int) | apply Exists.intro (α := Bool) | apply Exists.intro (α := ByteArray) | (apply Exists.intro (α := Option Addr); apply Exists.intro (α := Nat); apply Exists.intro (α := Nat)) | apply Exists.intro (α := Option Addr) | apply Exists.intro (α := Value)))
    refine ⟨rfl, ?_⟩
    refine ifnot (fun hx => ?_) fun hx => ⟨i, rfl, hP, fun _ => of_decide_eq_true hx, h⟩
    have hx := of_decide_eq_false hx
    exact leti (y := ((i + 1 : Nat) : Int)) (by rw [wrap_i64 (by omega) (by omega)]; omega) ⟨_, by omega, i + 1, rfl, rfl, hP.up (by omega) (by omega), h⟩
  clear h hP
  rintro _ w' ⟨i, rfl, hP, hi, h⟩
  refine ⟨fun x w' => ∃ j' : Nat, x = j' ∧ PE a b D pv i j' D' ∧ j' ≤ m ∧ (i ≤ j' → at0 D' j' ≤ pv) ∧ St c w' (own 3 1 A n k (D'.flatMap iv) :: L), ⟨fun q x w' => ∃ j' : Nat, x = j' ∧ q = j' ∧ PE a b D pv i j' D' ∧ j' ≤ m ∧ St c w' (own 3 1 A n k (D'.flatMap iv) :: L), ⟨_, m, rfl, rfl, hP, Nat.le_refl _, h⟩, ?_⟩, ?_⟩
  · clear h hP
    rintro q _ w' ⟨j', rfl, rfl, hP, hjj, h⟩
    have hj := hP.jb
    have ha := hP.ai
    have h := h.drew
    refine ifd (fun hle => ?_) fun hgt => ⟨q, rfl, hP, hjj, fun e => absurd e (by omega), h⟩
    refine h.arrR .head l (by omega) ?_
    refine h.arrR .head l (by omega) ?_
    rw [hP.pa]
    refine less_ok ?_
    (repeat (first | apply Exists.intro (α := Int) | apply Exists.intro (α := Bool) | apply Exists.intro (α := ByteArray) | (apply Exists.intro (α := Option Addr); apply Exists.intro (α := Nat); apply Exists.intro (α := Nat)) | apply Exists.intro (α := Option Addr) | apply Exists.intro (α := Value)))
    refine ⟨rfl, ?_⟩
    exact ifd (fun hx => leti (y := ((q - 1 : Nat) : Int)) (by rw [wrap_i64 (by omega) (by omega)]; omega) ⟨_, by omega, q - 1, rfl, rfl, hP.down (by omega) hx, by omega, h⟩) fun hx => ⟨q, rfl, hP, hjj, fun _ => by omega, h⟩
  clear h hP
  rintro _ w' ⟨j, rfl, hP, hjm, hj, h⟩
  have hjb := hP.jb
  have hai := hP.ai
  have hij := hP.ij
  refine ifd (fun hgt => leti rfl (hk D' i _ hP.mix hai (by omega) (fun t t1 t2 => ?_) (fun t t1 t2 => hP.hi t (by omega) t2) h)) fun hle => ?_
  · by_cases e : t = a
    · rw [e, hP.pa]; exact Int.le_refl _
    · exact hP.lo t (by omega) t2
  obtain ⟨hP2, hlt⟩ := hP.swap (by omega) (hi (by omega)) (hj (by omega)) (by omega)
  have h := h.drew
  refine h.arrR .head l (by omega) ?_
  refine h.arrR .head l (by omega) ?_
  refine h.arrW .head l (by omega) fun w' h => ?_
  refine h.arrW .head (by rw [List.length_set]; exact l) (by omega) fun w' h => ?_
  exact leti (y := ((i + 1 : Nat) : Int)) (by rw [wrap_i64 (by omega) (by omega)]; omega) (leti (y := ((j - 1 : Nat) : Int)) (by rw [wrap_i64 (by omega) (by omega)]; omega) ⟨j - 1, by omega, i + 1, j - 1, _, rfl, rfl, rfl, hP2, h⟩)
end
end Go.Br
