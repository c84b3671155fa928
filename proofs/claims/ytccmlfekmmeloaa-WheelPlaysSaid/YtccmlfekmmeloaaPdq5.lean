/- slices.Sort of numbers: heaps. -/
import Derived.Test.YtccmlfekmmeloaaNPdq5
import Derived.Test.YtccmlfekmmeloaaPdq4
set_option linter.unusedVariables false
set_option linter.unusedSimpArgs false
set_option linter.unnecessarySimpa false
namespace Go.Br
open Go
attribute [local irreducible] Addr.add RD RDS RUN RUNU NILC LETB CALL CALLX CALLV

/-- A heap that lies from a place on, from a parent on, but for one parent. -/
structure HP (f hi lo r : Nat) (D : List Int) : Prop where
  ok : ∀ p x, lo ≤ p → p ≠ r → (x = 2 * p + 1 ∨ x = 2 * p + 2) → x < hi → at0 D (f + x) ≤ at0 D (f + p)
  up : ∀ q x, lo ≤ q → (r = 2 * q + 1 ∨ r = 2 * q + 2) → (x = 2 * r + 1 ∨ x = 2 * r + 2) → x < hi → at0 D (f + x) ≤ at0 D (f + q)
def Hp (f hi lo : Nat) (D : List Int) : Prop := ∀ p x, lo ≤ p → (x = 2 * p + 1 ∨ x = 2 * p + 2) → x < hi → at0 D (f + x) ≤ at0 D (f + p)
theorem HP.step {f hi lo r y : Nat} {D : List Int} (h : HP f hi lo r D) (hr : lo ≤ r) (hy : y = 2 * r + 1 ∨ y = 2 * r + 2) (hyh : y < hi) (hmx : ∀ x, (x = 2 * r + 1 ∨ x = 2 * r + 2) → x < hi → at0 D (f + x) ≤ at0 D (f + y)) (hlt : at0 D (f + r) < at0 D (f + y)) (hl : f + hi ≤ D.length) : HP f hi lo y (swp D (f + r) (f + y)) := by
  have sa := fun t => swp_at (D := D) (i := f + r) (j := f + y) (by omega) (by omega) t
  refine ⟨fun p x h1 h2 h3 h4 => ?_, fun q x h1 h2 h3 h4 => ?_⟩
  · rw [sa, sa, if_neg (show ¬ f + p = f + y by omega)]
    by_cases ep : p = r
    · subst ep
      rw [if_pos (rfl : f + p = f + p)]
      by_cases ex : x = y
      · rw [if_pos (by omega)]; omega
      · rw [if_neg (by omega), if_neg (by omega)]
        exact hmx x h3 h4
    · rw [if_neg (show ¬ f + p = f + r by omega), if_neg (show ¬ f + x = f + y by omega)]
      by_cases ex : x = r
      · rw [if_pos (by omega)]
        exact h.up p y h1 (by omega) hy hyh
      · rw [if_neg (by omega)]
        exact h.ok p x h1 ep h3 h4
  · have eq : q = r := by omega
    subst eq
    rw [sa, sa, if_neg (by omega), if_neg (by omega), if_neg (by omega), if_pos rfl]
    exact h.ok y x (by omega) (by omega) h3 h4
theorem HP.done {f hi lo r : Nat} {D : List Int} (h : HP f hi lo r D) (hr : ∀ x, (x = 2 * r + 1 ∨ x = 2 * r + 2) → x < hi → at0 D (f + x) ≤ at0 D (f + r)) : Hp f hi lo D := fun p x h1 h2 h3 => by
  by_cases e : p = r
  · subst e; exact hr x h2 h3
  · exact h.ok p x h1 e h2 h3
theorem Hp.max {f hi : Nat} {D : List Int} (h : Hp f hi 0 D) : ∀ p, p < hi → at0 D (f + p) ≤ at0 D f := by
  intro p
  induction p using Nat.strongRecOn with
  | _ p ih =>
    intro hp
    rcases Nat.eq_zero_or_pos p with rfl | h0
    · exact Int.le_refl _
    · exact Int.le_trans (h ((p - 1) / 2) p (by omega) (by omega) hp) (ih ((p - 1) / 2) (by omega) (by omega))
section
variable {c : Ctx} {w : World} {L R : List SA} {A : Option Addr} {n k : Nat} {D : List Int} {f hi lo : Nat}
theorem sift_ok (h : St c w (own 3 1 A n k (D.flatMap iv) :: L)) (hn : D.length = n) (hb : n ≤ 1000000) (hfh : f + hi ≤ n) (hP : HP f hi lo lo D) {Q : Value → World → Prop}
    (hk : ∀ D' w', Mix f (f + hi) D D' → Hp f hi lo D' → St c w' (own 3 1 A n k (D'.flatMap iv) :: L) → Q (.tuple #[]) w') (hlo : lo ≤ 1000000) :
    CALL PG 176 [.slice A n k, .int .i64 (lo : Int), .int .i64 (hi : Int), .int .i64 (f : Int)] w Q := by
  refine call176 ?_
  unfold N176
  refine leti rfl ?_
  refine ⟨fun m r w' => ∃ (r' : Nat) (D' : List Int), r = r' ∧ m = hi + lo - r' ∧ lo ≤ r' ∧ (r' < hi ∨ r' = lo) ∧ Mix f (f + hi) D D' ∧ HP f hi lo r' D' ∧ St c w' (own 3 1 A n k (D'.flatMap iv) :: L), ⟨_, lo, D, rfl, rfl, Nat.le_refl _, .inr rfl, .refl _ _ _, hP, h⟩, ?_⟩
  clear h hP
  rintro m _ w' ⟨r, D', rfl, rfl, hr, hrh, hM, hP, h⟩
  have l : D'.length = n := by rw [hM.len, hn]
  refine leti (y := ((2 * r + 1 : Nat) : Int)) (by rw [wrap_i64 (n := 2 * (r : Int)) (by omega) (by omega), wrap_i64 (by omega) (by omega)]; omega) ?_
  refine ifd (fun hge => hk D' _ hM (hP.done fun x h1 h2 => by omega) h) fun hlt => ?_
  have w1 : ∀ y : Nat, y < hi → IntKind.i64.wrap ((f : Int) + (y : Int)) = ((f + y : Nat) : Int) := fun y hy => by rw [wrap_i64 (by omega) (by omega)]; omega
  refine ⟨fun y w' => ∃ y' : Nat, y = y' ∧ (y' = 2 * r + 1 ∨ y' = 2 * r + 2) ∧ y' < hi ∧ (∀ x, (x = 2 * r + 1 ∨ x = 2 * r + 2) → x < hi → at0 D' (f + x) ≤ at0 D' (f + y')) ∧ St c w' (own 3 1 A n k (D'.flatMap iv) :: L), ?_, ?_⟩
  · have h := h.drew
    rw [show IntKind.i64.wrap (((2 * r + 1 : Nat) : Int) + 1) = ((2 * r + 2 : Nat) : Int) by rw [wrap_i64 (by omega) (by omega)]; omega]
    refine ifd (fun h2 => ?_) fun h2 => ⟨2 * r + 1, rfl, .inl rfl, by omega, fun x h1 h3 => by rw [show x = 2 * r + 1 by omega]; exact Int.le_refl _, h⟩
    rw [w1 (2 * r + 1) (by omega), show IntKind.i64.wrap (((f + (2 * r + 1) : Nat) : Int) + 1) = ((f + (2 * r + 2) : Nat) : Int) by rw [wrap_i64 (by omega) (by omega)]; omega]
    refine h.arrR .head l (by omega) ?_
    refine h.arrR .head l (by omega) ?_
    refine less_ok ?_
    (repeat (first | apply Exists.intro (α := Int) | apply Exists.intro (α := Bool) | apply Exists.intro (α := ByteArray) | (apply Exists.intro (α := Option Addr); apply Exists.intro (α := Nat); apply Exists.intro (α := Nat)) | apply Exists.intro (α := Option Addr) | apply Exists.intro (α := Value)))
    refine ⟨rfl, ?_⟩
    refine ifd (fun hx => leti rfl ⟨2 * r + 2, rfl, .inr rfl, by omega, fun x h1 h3 => ?_, h⟩) fun hx => ⟨2 * r + 1, rfl, .inl rfl, by omega, fun x h1 h3 => ?_, h⟩
    · rcases h1 with rfl | rfl
      · omega
      · exact Int.le_refl _
    · rcases h1 with rfl | rfl
      · exact Int.le_refl _
      · omega
  clear h
  rintro _ w' ⟨y, rfl, hy, hyh, hmx, h⟩
  have h := h.drew
  rw [w1 r (by omega), w1 y hyh]
  refine h.arrR .head l (by omega) ?_
  refine h.arrR .head l (by omega) ?_
  refine less_ok ?_
  (repeat (first | apply Exists.intro (α := Int) | apply Exists.intro (α := Bool) | apply Exists.intro (α := ByteArray) | (apply Exists.intro (α := Option Addr); apply Exists.intro (α := Nat); apply Exists.intro (α := Nat)) | apply Exists.intro (α := Option Addr) | apply Exists.intro (α := Value)))
  refine ⟨rfl, ?_⟩
  refine ifnot (fun hx => ?_) fun hx => ?_
  · have hx := of_decide_eq_false hx
    exact hk D' _ hM (hP.done fun x h1 h2 => Int.le_trans (hmx x h1 h2) (by omega)) h
  have hx := of_decide_eq_true hx
  have h := h.drew
  refine h.arrR .head l (by omega) ?_
  refine h.arrR .head l (by omega) ?_
  refine h.arrW .head l (by omega) fun w' h => ?_
  refine h.arrW .head (by rw [List.length_set]; exact l) (by omega) fun w' h => ?_
  exact leti rfl ⟨_, by omega, y, swp D' (f + r) (f + y), rfl, rfl, by omega, .inl hyh, hM.trans (Mix.swp ⟨by omega, by omega⟩ ⟨by omega, by omega⟩ (by omega)), hP.step hr hy hyh hmx hx (by omega), h⟩
theorem heap_ok {a b : Nat} (h : St c w (own 3 1 A n k (D.flatMap iv) :: L)) (hn : D.length = n) (hb : n ≤ 1000000) (hab : a < b) (hbn : b ≤ n) {Q : Value → World → Prop}
    (hk : ∀ D' w', Mix a b D D' → SrtR a b D' → St c w' (own 3 1 A n k (D'.flatMap iv) :: L) → Q (.tuple #[]) w') :
    CALL PG 148 [.slice A n k, .int .i64 (a : Int), .int .i64 (b : Int)] w Q := by
  obtain ⟨hi, rfl⟩ : ∃ hi, b = a + hi := ⟨b - a, by omega⟩
  refine call148 ?_
  unfold N148
  refine leti rfl (leti (y := (hi : Int)) (by rw [wrap_i64 (by omega) (by omega)]; omega) ?_)
  refine ⟨by decide, leti (y := (((hi - 1) / 2 : Nat) : Int)) ?_ ?_⟩
  · rw [wrap_i64 (n := (hi : Int) - 1) (by omega) (by omega), Int.tdiv_eq_ediv_of_nonneg (by omega), wrap_i64 (by omega) (by omega)]
    omega
  refine ⟨fun m i w' => ∃ (i' : Nat) (D' : List Int), i = (i' : Int) - 1 ∧ m = i' ∧ i' ≤ hi ∧ Mix a (a + hi) D D' ∧ Hp a hi i' D' ∧ St c w' (own 3 1 A n k (D'.flatMap iv) :: L), ⟨_, (hi - 1) / 2 + 1, D, by omega, rfl, by omega, .refl _ _ _, fun p x h1 h2 h3 => by omega, h⟩, ?_⟩
  clear h
  rintro m _ w' ⟨i, D', rfl, rfl, hih, hM, hH, h⟩
  have l : D'.length = n := by rw [hM.len, hn]
  refine ifd (fun hge => ?_) fun hlt => ?_
  · rw [show (m : Int) - 1 = ((m - 1 : Nat) : Int) by omega]
    refine sift_ok h l hb hbn ⟨fun p x h1 h2 h3 h4 => hH p x (by omega) h3 h4, fun q x h1 h2 h3 h4 => by omega⟩ (fun D2 w' hM2 hH2 h => ?_) (by omega)
    (repeat (first | apply Exists.intro (α := Int) | apply Exists.intro (α := Bool) | apply Exists.intro (α := ByteArray) | (apply Exists.intro (α := Option Addr); apply Exists.intro (α := Nat); apply Exists.intro (α := Nat)) | apply Exists.intro (α := Option Addr) | apply Exists.intro (α := Value)))
    refine ⟨rfl, ?_⟩
    exact leti rfl ⟨m - 1, by omega, m - 1, D2, by rw [wrap_i64 (by omega) (by omega)], rfl, by omega, hM.trans hM2, hH2, h⟩
  have e0 : m = 0 := by omega
  subst e0
  refine leti (y := (hi : Int) - 1) (by rw [wrap_i64 (by omega) (by omega)]) ?_
  refine ⟨fun m i w' => ∃ (i' : Nat) (D' : List Int), i = (i' : Int) - 1 ∧ m = i' ∧ i' ≤ hi ∧ Mix a (a + hi) D D' ∧ Hp a i' 0 D' ∧ SrtR (a + i') (a + hi) D' ∧ (∀ s t, a ≤ s → s < a + i' → a + i' ≤ t → t < a + hi → at0 D' s ≤ at0 D' t) ∧ St c w' (own 3 1 A n k (D'.flatMap iv) :: L), ⟨_, hi, D', rfl, rfl, Nat.le_refl _, hM, hH, fun s t h1 h2 h3 => by omega, fun s t h1 h2 h3 h4 => by omega, h⟩, ?_⟩
  clear h hM hH l D'
  rintro m _ w' ⟨i, D', rfl, rfl, hih, hM, hH, hS, hX, h⟩
  have l : D'.length = n := by rw [hM.len, hn]
  refine ifd (fun hge => ?_) fun hlt => ?_
  rotate_left
  · have e0 : m = 0 := by omega
    subst e0
    exact hk D' _ hM (by simpa using hS) h
  obtain ⟨e, rfl⟩ : ∃ e, m = e + 1 := ⟨m - 1, by omega⟩
  rw [show ((e + 1 : Nat) : Int) - 1 = (e : Int) by omega, show IntKind.i64.wrap ((a : Int) + (e : Int)) = ((a + e : Nat) : Int) by rw [wrap_i64 (by omega) (by omega)]; omega]
  have h := h.drew
  refine h.arrR .head l (by omega) ?_
  refine h.arrR .head l (by omega) ?_
  refine h.arrW .head l (by omega) fun w' h => ?_
  refine h.arrW .head (by rw [List.length_set]; exact l) (by omega) fun w' h => ?_
  have h : St c w' (own 3 1 A n k ((swp D' a (a + e)).flatMap iv) :: L) := h
  have sa := fun t => swp_at (D := D') (i := a) (j := a + e) (by omega) (by omega) t
  have hM1 : Mix a (a + hi) D (swp D' a (a + e)) := hM.trans (Mix.swp ⟨Nat.le_refl _, by omega⟩ ⟨by omega, by omega⟩ (by omega))
  have hmax := hH.max
  have hD1 : ∀ t, a + (e + 1) ≤ t → at0 (swp D' a (a + e)) t = at0 D' t := fun t h1 => by rw [sa, if_neg (by omega), if_neg (by omega)]
  have hDe : at0 (swp D' a (a + e)) (a + e) = at0 D' a := by rw [sa, if_pos rfl]
  have hDs : ∀ s, a ≤ s → s < a + e → ∃ r, a ≤ r ∧ r < a + (e + 1) ∧ at0 (swp D' a (a + e)) s = at0 D' r := fun s h1 h2 => by
    rw [sa, if_neg (by omega)]
    split
    · exact ⟨a + e, by omega, by omega, rfl⟩
    · exact ⟨s, h1, by omega, rfl⟩
  have hHP : HP a e 0 0 (swp D' a (a + e)) := ⟨fun p x h1 h2 h3 h4 => by
    rw [sa, sa, if_neg (by omega), if_neg (by omega), if_neg (by omega), if_neg (by omega)]
    exact hH p x h1 h3 (by omega), fun q x h1 h2 h3 h4 => by omega⟩
  generalize swp D' a (a + e) = D1 at *
  refine sift_ok h (by rw [hM1.len, hn]) hb (by omega) hHP (fun D2 w' hM2 hH2 h => ?_) (by omega)
  (repeat (first | apply Exists.intro (α := Int) | apply Exists.intro (α := Bool) | apply Exists.intro (α := ByteArray) | (apply Exists.intro (α := Option Addr); apply Exists.intro (α := Nat); apply Exists.intro (α := Nat)) | apply Exists.intro (α := Option Addr) | apply Exists.intro (α := Value)))
  refine ⟨rfl, ?_⟩
  have out : ∀ t, a + e ≤ t → at0 D2 t = at0 D1 t := fun t h1 => hM2.out t (.inr h1)
  refine leti rfl ⟨e, by omega, e, D2, by rw [wrap_i64 (by omega) (by omega)], rfl, by omega, hM1.trans (hM2.mono (Nat.le_refl _) (by omega)), hH2, fun s t h1 h2 h3 => ?_, fun s t h1 h2 h3 h4 => ?_, h⟩
  · rw [out s h1, out t (by omega), hD1 t (by omega)]
    by_cases es : s = a + e
    · rw [es, hDe]
      exact hX a t (Nat.le_refl _) (by omega) (by omega) h3
    · rw [hD1 s (by omega)]
      exact hS s t (by omega) h2 h3
  · obtain ⟨r, r1, r2, r3⟩ := hM2.sub s h1 h2
    obtain ⟨r', q1, q2, q3⟩ := hDs r r1 r2
    rw [r3, q3, out t h3]
    by_cases et : t = a + e
    · rw [et, hDe]
      have := hmax (r' - a) (by omega)
      rwa [show a + (r' - a) = r' by omega] at this
    · rw [hD1 t (by omega)]
      exact hX r' t q1 q2 (by omega) h4
end
end Go.Br
