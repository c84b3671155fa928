/- slices.Sort of numbers: a range that is nearly sorted. -/
import Derived.Test.YtccmlfekmmeloaaNPdq7
import Derived.Test.YtccmlfekmmeloaaPdq4
set_option linter.unusedVariables false
set_option linter.unusedSimpArgs false
set_option linter.unnecessarySimpa false
namespace Go.Br
open Go
attribute [local irreducible] Addr.add RD RDS RUN RUNU NILC LETB CALL CALLX CALLV

/-- What stands ahead of a range isn't above it. -/
def Pre (a b : Nat) (D : List Int) : Prop := a = 0 ∨ ∀ t, a ≤ t → t < b → at0 D (a - 1) ≤ at0 D t
theorem Pre.mix {a b : Nat} {D D' : List Int} (h : Pre a b D) (hM : Mix a b D D') : Pre a b D' := by
  rcases h with h | h
  · exact .inl h
  · by_cases ha : a = 0
    · exact .inl ha
    · refine .inr fun t h1 h2 => ?_
      obtain ⟨s, s1, s2, s3⟩ := hM.sub t h1 h2
      rw [hM.out (a - 1) (.inl (by omega)), s3]
      exact h s s1 s2
section
variable {c : Ctx} {w : World} {L R : List SA} {A : Option Addr} {n k : Nat} {D : List Int} {a b : Nat}
theorem partial_ok (h : St c w (own 3 1 A n k (D.flatMap iv) :: L)) (hn : D.length = n) (hb : n ≤ 1000000) (hab : a < b) (hbn : b ≤ n) (hp : Pre a b D) {Q : Value → World → Prop}
    (hk : ∀ D' (bb : Bool) w', Mix a b D D' → (bb = true → SrtR a b D') → St c w' (own 3 1 A n k (D'.flatMap iv) :: L) → Q (.bool bb) w') :
    CALL PG 152 [.slice A n k, .int .i64 (a : Int), .int .i64 (b : Int)] w Q := by
  have lD : ∀ {D' : List Int}, Mix a b D D' → D'.length = n := fun h => by rw [h.len, hn]
  refine call152 ?_
  unfold N152
  refine leti (y := ((a + 1 : Nat) : Int)) (by rw [wrap_i64 (by omega) (by omega)]; omega) ?_
  refine ⟨fun m i j w' => ∃ (i' : Nat) (D' : List Int), i = i' ∧ 0 ≤ j ∧ j ≤ 5 ∧ m = (5 - j).toNat ∧ a < i' ∧ i' ≤ b ∧ Mix a b D D' ∧ SrtR a i' D' ∧ St c w' (own 3 1 A n k (D'.flatMap iv) :: L), ⟨_, a + 1, D, rfl, by omega, by omega, rfl, by omega, by omega, .refl _ _ _, fun s t h1 h2 h3 => by omega, h⟩, ?_⟩
  clear h
  rintro m _ j w' ⟨i, D', rfl, j0, j5, rfl, hai, hib, hM, hS, h⟩
  refine ifd (fun hlt => ?_) fun _ => hk D' false _ hM (fun e => by cases e) h
  refine ⟨fun x w' => ∃ i' : Nat, x = i' ∧ a < i' ∧ i' ≤ b ∧ SrtR a i' D' ∧ (i' < b → at0 D' i' < at0 D' (i' - 1)) ∧ St c w' (own 3 1 A n k (D'.flatMap iv) :: L), ⟨fun q x w' => ∃ i' : Nat, x = i' ∧ q = b - i' ∧ a < i' ∧ i' ≤ b ∧ SrtR a i' D' ∧ St c w' (own 3 1 A n k (D'.flatMap iv) :: L), ⟨_, i, rfl, rfl, hai, hib, hS, h⟩, ?_⟩, ?_⟩
  · clear h hS
    rintro q _ w' ⟨i, rfl, rfl, hai, hib, hS, h⟩
    have h := h.drew
    refine ifd (fun hl => ?_) fun _ => ⟨i, rfl, hai, hib, hS, fun e => by omega, h⟩
    rw [show IntKind.i64.wrap ((i : Int) - 1) = ((i - 1 : Nat) : Int) by rw [wrap_i64 (by omega) (by omega)]; omega]
    refine h.arrR .head (lD hM) (by omega) ?_
    refine h.arrR .head (lD hM) (by omega) ?_
    refine less_ok ?_
    (repeat (first | apply Exists.intro (α := Int) | apply Exists.intro (α := Bool) | apply Exists.intro (α := ByteArray) | (apply Exists.intro (α := Option Addr); apply Exists.intro (α := Nat); apply Exists.intro (α := Nat)) | apply Exists.intro (α := Option Addr) | apply Exists.intro (α := Value)))
    refine ⟨rfl, ?_⟩
    refine ifnot (fun hx => ?_) fun hx => ⟨i, rfl, hai, hib, hS, fun _ => of_decide_eq_true hx, h⟩
    have hx := of_decide_eq_false hx
    refine leti (y := ((i + 1 : Nat) : Int)) (by rw [wrap_i64 (by omega) (by omega)]; omega) ⟨_, by omega, i + 1, rfl, rfl, by omega, by omega, fun s t h1 h2 h3 => ?_, h⟩
    by_cases et : t = i
    · rw [et]
      by_cases es : s = i - 1
      · rw [es]; omega
      · exact Int.le_trans (hS s (i - 1) h1 (by omega) (by omega)) (by omega)
    · exact hS s t h1 h2 (by omega)
  clear h hS hai hib
  rintro _ w' ⟨i, rfl, hai, hib, hS, hlt2, h⟩
  refine ifq (fun e => ?_) fun hne => ?_
  · have : i = b := by omega
    subst this
    exact hk D' true _ hM (fun _ => hS) h
  refine ifd (fun _ => hk D' false _ hM (fun e => by cases e) h) fun hge => ?_
  rw [show IntKind.i64.wrap ((i : Int) - 1) = ((i - 1 : Nat) : Int) by rw [wrap_i64 (by omega) (by omega)]; omega]
  have l := lD hM
  have hx0 := hlt2 (by omega)
  have h := h.drew
  refine h.arrR .head l (by omega) ?_
  refine h.arrR .head l (by omega) ?_
  refine h.arrW .head l (by omega) fun w' h => ?_
  refine h.arrW .head (by rw [List.length_set]; exact l) (by omega) fun w' h => ?_
  have h : St c w' (own 3 1 A n k ((swp D' i (i - 1)).flatMap iv) :: L) := h
  have sa := fun t => swp_at (D := D') (i := i) (j := i - 1) (by omega) (by omega) t
  have hM1 : Mix a b D (swp D' i (i - 1)) := hM.trans (Mix.swp ⟨by omega, by omega⟩ ⟨by omega, by omega⟩ (by omega))
  have hI : InsP a (i - 1) (i - 1) (swp D' i (i - 1)) := ⟨fun s t h1 h2 h3 h4 h5 => by
    rw [sa, sa, if_neg h4, if_neg (by omega), if_neg h5, if_neg (by omega)]
    exact hS s t h1 h2 (by omega), fun t h1 h2 => by omega⟩
  generalize swp D' i (i - 1) = D1 at *
  refine ⟨fun w' => ∃ D' : List Int, Mix a b D D' ∧ SrtR a i D' ∧ St c w' (own 3 1 A n k (D'.flatMap iv) :: L), ?_, ?_⟩
  · refine ifd (fun _ => leti rfl ?_) fun hs => ⟨D1, hM1, fun s t h1 h2 h3 => by rw [wrap_i64 (by omega) (by omega)] at hs; omega, h⟩
    refine ⟨fun q x w' => ∃ (j' : Nat) (D' : List Int), x = j' ∧ q = j' ∧ a ≤ j' ∧ j' ≤ i - 1 ∧ Mix a b D D' ∧ InsP a (i - 1) j' D' ∧ St c w' (own 3 1 A n k (D'.flatMap iv) :: L), ⟨_, i - 1, D1, rfl, rfl, by omega, Nat.le_refl _, hM1, hI, h⟩, ?_⟩
    clear h
    rintro q _ w' ⟨j', D', rfl, rfl, haj, hji, hM, hI, h⟩
    have l := lD hM
    have fin : (a < q → at0 D' (q - 1) ≤ at0 D' q) → SrtR a i D' := fun hx => by
      have := hI.done ⟨haj, hji⟩ hx
      rwa [show i - 1 + 1 = i by omega] at this
    refine ifd (fun h1 => ?_) fun _ => ⟨D', hM, fin (fun e => by omega), h⟩
    rw [show IntKind.i64.wrap ((q : Int) - 1) = ((q - 1 : Nat) : Int) by rw [wrap_i64 (by omega) (by omega)]; omega]
    have h := h.drew
    refine h.arrR .head l (by omega) ?_
    refine h.arrR .head l (by omega) ?_
    refine less_ok ?_
    (repeat (first | apply Exists.intro (α := Int) | apply Exists.intro (α := Bool) | apply Exists.intro (α := ByteArray) | (apply Exists.intro (α := Option Addr); apply Exists.intro (α := Nat); apply Exists.intro (α := Nat)) | apply Exists.intro (α := Option Addr) | apply Exists.intro (α := Value)))
    refine ⟨rfl, ?_⟩
    refine ifnot (fun hx => ?_) fun hx => ?_
    · have hx := of_decide_eq_false hx
      exact ⟨D', hM, fin (fun e => by omega), h⟩
    have hx := of_decide_eq_true hx
    have haq : a < q := by
      rcases Nat.lt_or_ge a q with h2 | h2
      · exact h2
      · have e : a = q := by omega
        subst e
        rcases hp.mix hM with h3 | h3
        · omega
        · have := h3 a (Nat.le_refl _) hab
          omega
    have h := h.drew
    refine h.arrR .head l (by omega) ?_
    refine h.arrR .head l (by omega) ?_
    refine h.arrW .head l (by omega) fun w' h => ?_
    refine h.arrW .head (by rw [List.length_set]; exact l) (by omega) fun w' h => ?_
    exact leti rfl ⟨q - 1, by omega, q - 1, swp D' q (q - 1), rfl, rfl, by omega, by omega, hM.trans (Mix.swp ⟨by omega, by omega⟩ ⟨by omega, by omega⟩ (by omega)), hI.step ⟨haq, hji⟩ hx (by omega), h⟩
  clear h
  rintro w' ⟨D', hM, hS, h⟩
  have nx : IntKind.i64.wrap (j + 1) = j + 1 := wrap_i64 (by omega) (by omega)
  refine ifd (fun _ => leti (y := ((i + 1 : Nat) : Int)) (by rw [wrap_i64 (by omega) (by omega)]; omega) ?_) fun _ => leti nx ⟨_, by omega, i, D', rfl, by omega, by omega, rfl, hai, hib, hM, hS, h⟩
  refine ⟨fun q x w' => ∃ (j' : Nat) (D' : List Int), x = j' ∧ q = b - j' ∧ i < j' ∧ j' ≤ b ∧ Mix a b D D' ∧ SrtR a i D' ∧ St c w' (own 3 1 A n k (D'.flatMap iv) :: L), ⟨_, i + 1, D', rfl, rfl, by omega, by omega, hM, hS, h⟩, ?_⟩
  clear h
  rintro q _ w' ⟨y, D', rfl, rfl, hiy, hyb, hM, hS, h⟩
  have l := lD hM
  refine ifd (fun h1 => ?_) fun _ => leti nx ⟨_, by omega, i, D', rfl, by omega, by omega, rfl, hai, hib, hM, hS, h⟩
  rw [show IntKind.i64.wrap ((y : Int) - 1) = ((y - 1 : Nat) : Int) by rw [wrap_i64 (by omega) (by omega)]; omega]
  have h := h.drew
  refine h.arrR .head l (by omega) ?_
  refine h.arrR .head l (by omega) ?_
  refine less_ok ?_
  (repeat (first | apply Exists.intro (α := Int) | apply Exists.intro (α := Bool) | apply Exists.intro (α := ByteArray) | (apply Exists.intro (α := Option Addr); apply Exists.intro (α := Nat); apply Exists.intro (α := Nat)) | apply Exists.intro (α := Option Addr) | apply Exists.intro (α := Value)))
  refine ⟨rfl, ?_⟩
  refine ifnot (fun hx => leti nx ⟨_, by omega, i, D', rfl, by omega, by omega, rfl, hai, hib, hM, hS, h⟩) fun hx => ?_
  have sa := fun t => swp_at (D := D') (i := y) (j := y - 1) (by omega) (by omega) t
  have h := h.drew
  refine h.arrR .head l (by omega) ?_
  refine h.arrR .head l (by omega) ?_
  refine h.arrW .head l (by omega) fun w' h => ?_
  refine h.arrW .head (by rw [List.length_set]; exact l) (by omega) fun w' h => ?_
  exact leti (y := ((y + 1 : Nat) : Int)) (by rw [wrap_i64 (by omega) (by omega)]; omega) ⟨_, by omega, y + 1, swp D' y (y - 1), rfl, rfl, by omega, by omega, hM.trans (Mix.swp ⟨by omega, by omega⟩ ⟨by omega, by omega⟩ (by omega)), fun s t h1 h2 h3 => by
    rw [sa, sa, if_neg (by omega), if_neg (by omega), if_neg (by omega), if_neg (by omega)]
    exact hS s t h1 h2 h3, h⟩
end
end Go.Br
