/- slices.Sort of numbers: a range is parted by its pivot. -/
import Derived.Test.YtccmlfekmmeloaaNPdq2
import Derived.Test.YtccmlfekmmeloaaPdq
set_option linter.unusedVariables false
set_option linter.unusedSimpArgs false
set_option linter.unnecessarySimpa false
namespace Go.Br
open Go
attribute [local irreducible] Addr.add RD RDS RUN RUNU NILC LETB CALL CALLX CALLV

/-- While a range is parted: what lies ahead of i is less than the pivot, what lies behind j isn't. -/
structure PI (a b : Nat) (D : List Int) (pv : Int) (i j : Nat) (D' : List Int) : Prop where
  mix : Mix a b D D'
  pa : at0 D' a = pv
  ai : a < i
  ij : i ≤ j + 1
  jb : j < b
  lo : ∀ t, a < t → t < i → at0 D' t < pv
  hi : ∀ t, j < t → t < b → pv ≤ at0 D' t
theorem PI.up {a b : Nat} {D : List Int} {pv : Int} {i j : Nat} {D' : List Int} (h : PI a b D pv i j D') (hij : i ≤ j) (hx : at0 D' i < pv) : PI a b D pv (i + 1) j D' :=
  ⟨h.mix, h.pa, by have := h.ai; omega, by omega, h.jb, fun t t1 t2 => by
    by_cases e : t = i
    · subst e; exact hx
    · exact h.lo t t1 (by omega), h.hi⟩
theorem PI.down {a b : Nat} {D : List Int} {pv : Int} {i j : Nat} {D' : List Int} (h : PI a b D pv i j D') (hij : i ≤ j) (hx : pv ≤ at0 D' j) : PI a b D pv i (j - 1) D' :=
  ⟨h.mix, h.pa, h.ai, by have := h.ai; omega, by have := h.jb; omega, h.lo, fun t t1 t2 => by
    by_cases e : t = j
    · subst e; exact hx
    · exact h.hi t (by have := h.ai; omega) t2⟩
theorem PI.swap {a b : Nat} {D : List Int} {pv : Int} {i j : Nat} {D' : List Int} (h : PI a b D pv i j D') (hij : i ≤ j) (h1 : pv ≤ at0 D' i) (h2 : at0 D' j < pv) (hb : b ≤ D'.length) : PI a b D pv (i + 1) (j - 1) (swp D' i j) ∧ i < j := by
  have hlt : i < j := by
    rcases Nat.lt_or_ge i j with h3 | h3
    · exact h3
    · have : i = j := by omega
      subst this; omega
  have hai := h.ai
  have hjb := h.jb
  have sa := fun t => swp_at (D := D') (i := i) (j := j) (by omega) (by omega) t
  refine ⟨⟨h.mix.trans (Mix.swp ⟨by omega, by omega⟩ ⟨by omega, hjb⟩ hb), ?_, by omega, by omega, by omega, fun t t1 t2 => ?_, fun t t1 t2 => ?_⟩, hlt⟩
  · rw [sa, if_neg (by omega), if_neg (by omega)]; exact h.pa
  · rw [sa, if_neg (by omega)]
    split
    · exact h2
    · exact h.lo t t1 (by omega)
  · rw [sa]
    split
    · exact h1
    · rw [if_neg (by omega)]
      exact h.hi t (by omega) t2
section
variable {c : Ctx} {w : World} {L R : List SA} {A : Option Addr} {n k : Nat} {D : List Int} {a b i j : Nat} {pv : Int} {D' : List Int}
theorem scanU {REST : Int → World → Prop} (h : St c w (own 3 1 A n k (D'.flatMap iv) :: L)) (hn : D'.length = n) (hbn : b ≤ n) (hb : n ≤ 1000000) (hP : PI a b D pv i j D')
    (hr : ∀ (i' : Nat) w', PI a b D pv i' j D' → (i' ≤ j → pv ≤ at0 D' i') → St c w' (own 3 1 A n k (D'.flatMap iv) :: L) → REST (i' : Int) w') :
    ∃ R : Int → World → Prop, (∃ I : Nat → Int → World → Prop, (∃ m, I m (i : Int) w) ∧ (∀ m1 (i1 : Int) (w3 : World), I m1 i1 w3 → (IFB (decide (i1 ≤ (j : Int)))
      (IDX A n i1 fun a36 => RDI PG (loadVar 3 (Addr.add a36 (Int.toNat i1 * 1))) .i64 (w3.drew) fun x37 => IDX A n (a : Int) fun a40 => RDI PG (loadVar 3 (Addr.add a40 (Int.toNat (a : Int) * 1))) .i64 (w3.drew) fun x41 =>
        CALL PG 153 [(.int .i64 x37), (.int .i64 x41)] (w3.drew) fun v w4 => ∃ x42 : Bool, v = (.bool x42) ∧ (IFB x42 (LETI (IntKind.i64.wrap (i1 + (1 : Int))) fun i2 => ∃ m2, m2 < m1 ∧ I m2 i2 w4) (R i1 w4)))
      (R i1 (w3.drew))))) ∧ (∀ (i3 : Int) (w5 : World), R i3 w5 → REST i3 w5) := by
  refine ⟨fun x w' => ∃ i' : Nat, x = i' ∧ PI a b D pv i' j D' ∧ (i' ≤ j → pv ≤ at0 D' i') ∧ St c w' (own 3 1 A n k (D'.flatMap iv) :: L), ⟨fun m x w' => ∃ i' : Nat, x = i' ∧ m = b - i' ∧ PI a b D pv i' j D' ∧ St c w' (own 3 1 A n k (D'.flatMap iv) :: L), ⟨_, i, rfl, rfl, hP, h⟩, ?_⟩, ?_⟩
  · clear h hP
    rintro m _ w' ⟨i, rfl, rfl, hP, h⟩
    have hj := hP.jb
    have ha := hP.ai
    have hij := hP.ij
    have h := h.drew
    refine ifd (fun hle => ?_) fun hgt => ⟨i, rfl, hP, fun e => absurd e (by omega), h⟩
    refine h.arrR .head hn (by omega) ?_
    refine h.arrR .head hn (by omega) ?_
    rw [hP.pa]
    refine less_ok ?_
    (repeat (first | apply Exists.intro (α := Int) | apply Exists.intro (α := Bool) | apply Exists.intro (α := ByteArray) | (apply Exists.intro (α := Option Addr); apply Exists.intro (α := Nat); apply Exists.intro (α := Nat)) | apply Exists.intro (α := Option Addr) | apply Exists.intro (α := Value)))
    refine ⟨rfl, ?_⟩
    exact ifd (fun hx => leti (y := ((i + 1 : Nat) : Int)) (by rw [wrap_i64 (by omega) (by omega)]; omega) ⟨_, by omega, i + 1, rfl, rfl, hP.up (by omega) hx, h⟩) fun hx => ⟨i, rfl, hP, fun _ => by omega, h⟩
  · rintro _ w' ⟨i', rfl, h1, h2, h3⟩
    exact hr i' w' h1 h2 h3
theorem scanD {REST : Int → World → Prop} (h : St c w (own 3 1 A n k (D'.flatMap iv) :: L)) (hn : D'.length = n) (hbn : b ≤ n) (hb : n ≤ 1000000) (hP : PI a b D pv i j D')
    (hr : ∀ (j' : Nat) w', PI a b D pv i j' D' → j' ≤ j → (i ≤ j' → at0 D' j' < pv) → St c w' (own 3 1 A n k (D'.flatMap iv) :: L) → REST (j' : Int) w') :
    ∃ R : Int → World → Prop, (∃ I : Nat → Int → World → Prop, (∃ m, I m (j : Int) w) ∧ (∀ m1 (j1 : Int) (w3 : World), I m1 j1 w3 → (IFB (decide ((i : Int) ≤ j1))
      (IDX A n j1 fun a36 => RDI PG (loadVar 3 (Addr.add a36 (Int.toNat j1 * 1))) .i64 (w3.drew) fun x37 => IDX A n (a : Int) fun a40 => RDI PG (loadVar 3 (Addr.add a40 (Int.toNat (a : Int) * 1))) .i64 (w3.drew) fun x41 =>
        CALL PG 153 [(.int .i64 x37), (.int .i64 x41)] (w3.drew) fun v w4 => ∃ x42 : Bool, v = (.bool x42) ∧ (IFB (!x42) (LETI (IntKind.i64.wrap (j1 - (1 : Int))) fun j2 => ∃ m2, m2 < m1 ∧ I m2 j2 w4) (R j1 w4)))
      (R j1 (w3.drew))))) ∧ (∀ (j3 : Int) (w5 : World), R j3 w5 → REST j3 w5) := by
  refine ⟨fun x w' => ∃ j' : Nat, x = j' ∧ PI a b D pv i j' D' ∧ j' ≤ j ∧ (i ≤ j' → at0 D' j' < pv) ∧ St c w' (own 3 1 A n k (D'.flatMap iv) :: L), ⟨fun m x w' => ∃ j' : Nat, x = j' ∧ m = j' ∧ PI a b D pv i j' D' ∧ j' ≤ j ∧ St c w' (own 3 1 A n k (D'.flatMap iv) :: L), ⟨_, j, rfl, rfl, hP, Nat.le_refl _, h⟩, ?_⟩, ?_⟩
  · clear h
    rintro m _ w' ⟨j', rfl, rfl, hP, hjj, h⟩
    have hj := hP.jb
    have ha := hP.ai
    have h := h.drew
    refine ifd (fun hle => ?_) fun hgt => ⟨m, rfl, hP, hjj, fun e => absurd e (by omega), h⟩
    refine h.arrR .head hn (by omega) ?_
    refine h.arrR .head hn (by omega) ?_
    rw [hP.pa]
    refine less_ok ?_
    (repeat (first | apply Exists.intro (α := Int) | apply Exists.intro (α := Bool) | apply Exists.intro (α := ByteArray) | (apply Exists.intro (α := Option Addr); apply Exists.intro (α := Nat); apply Exists.intro (α := Nat)) | apply Exists.intro (α := Option Addr) | apply Exists.intro (α := Value)))
    refine ⟨rfl, ?_⟩
    refine ifnot (fun hx => ?_) fun hx => ⟨m, rfl, hP, hjj, fun _ => of_decide_eq_true hx, h⟩
    have hx := of_decide_eq_false hx
    exact leti (y := ((m - 1 : Nat) : Int)) (by rw [wrap_i64 (by omega) (by omega)]; omega) ⟨_, by omega, m - 1, rfl, rfl, hP.down (by omega) (by omega), by omega, h⟩
  · rintro _ w' ⟨j', rfl, h1, h2, h3, h4⟩
    exact hr j' w' h1 h2 h3 h4
theorem PI.done (h : PI a b D pv i j D') (hgt : j < i) (hb : b ≤ D'.length) : Mix a b D (swp D' j a) ∧ a ≤ j ∧ j < b ∧ (∀ t, a ≤ t → t < j → at0 (swp D' j a) t < at0 (swp D' j a) j) ∧ ∀ t, j < t → t < b → at0 (swp D' j a) j ≤ at0 (swp D' j a) t := by
  have hai := h.ai
  have hij := h.ij
  have hjb := h.jb
  have sa := fun t => swp_at (D := D') (i := j) (j := a) (by omega) (by omega) t
  have e : at0 (swp D' j a) j = pv := by
    rw [sa]
    split
    · rename_i e; rw [e]; exact h.pa
    · rw [if_pos rfl]; exact h.pa
  refine ⟨h.mix.trans (Mix.swp ⟨by omega, hjb⟩ ⟨by omega, by omega⟩ hb), by omega, hjb, fun t t1 t2 => ?_, fun t t1 t2 => ?_⟩
  · rw [e, sa]
    split
    · exact h.lo j (by omega) (by omega)
    · rw [if_neg (by omega)]
      exact h.lo t (by omega) (by omega)
  · rw [e, sa, if_neg (by omega), if_neg (by omega)]
    exact h.hi t t1 t2
theorem part_ok (h : St c w (own 3 1 A n k (D.flatMap iv) :: L)) (hn : D.length = n) (hb : n ≤ 1000000) {p : Nat} (hp : a ≤ p ∧ p < b) (hbn : b ≤ n) {Q : Value → World → Prop}
    (hk : ∀ (D' : List Int) (m : Nat) (bb : Bool) w', Mix a b D D' → a ≤ m → m < b → (∀ t, a ≤ t → t < m → at0 D' t < at0 D' m) → (∀ t, m < t → t < b → at0 D' m ≤ at0 D' t) → St c w' (own 3 1 A n k (D'.flatMap iv) :: L) → Q (.tuple #[.int .i64 (m : Int), .bool bb]) w') :
    CALL PG 155 [.slice A n k, .int .i64 (a : Int), .int .i64 (b : Int), .int .i64 (p : Int)] w Q := by
  refine call155 ?_
  unfold N155
  have h := h.drew
  refine h.arrR .head hn (by omega) ?_
  refine h.arrR .head hn (by omega) ?_
  refine h.arrW .head hn (by omega) fun w' h => ?_
  refine h.arrW .head (by rw [List.length_set]; exact hn) (by omega) fun w' h => ?_
  have h : St c w' (own 3 1 A n k ((swp D a p).flatMap iv) :: L) := h
  have sa := fun t => swp_at (D := D) (i := a) (j := p) (by omega) (by omega) t
  have hP : PI a b D (at0 D p) (a + 1) (b - 1) (swp D a p) := by
    refine ⟨Mix.swp ⟨Nat.le_refl _, by omega⟩ hp (by omega), ?_, by omega, by omega, by omega, fun t t1 t2 => by omega, fun t t1 t2 => by omega⟩
    rw [sa]
    split
    · rename_i e; rw [← e]
    · rw [if_pos rfl]
  generalize at0 D p = pv at *
  generalize swp D a p = D1 at *
  have lD : ∀ {i j : Nat} {D' : List Int}, PI a b D pv i j D' → D'.length = n := fun h => by rw [h.mix.len, hn]
  refine leti (y := ((a + 1 : Nat) : Int)) (by rw [wrap_i64 (by omega) (by omega)]; omega) (leti (y := ((b - 1 : Nat) : Int)) (by rw [wrap_i64 (by omega) (by omega)]; omega) ?_)
  have fin : ∀ {i j : Nat} {D' : List Int} {w' : World} {bb : Bool}, PI a b D pv i j D' → j < i → St c w' (own 3 1 A n k (D'.flatMap iv) :: L) →
      IDX A n (a : Int) fun a1 => RDI PG (loadVar 3 (Addr.add a1 (Int.toNat (a : Int) * 1))) .i64 w' fun x73 => IDX A n (j : Int) fun a2 => RDI PG (loadVar 3 (Addr.add a2 (Int.toNat (j : Int) * 1))) .i64 w' fun x77 =>
        IDX A n (j : Int) fun a3 => RUNU PG (storeVar 3 (Addr.add a3 (Int.toNat (j : Int) * 1)) (.int .i64 x73)) w' fun w9 => IDX A n (a : Int) fun a4 => RUNU PG (storeVar 3 (Addr.add a4 (Int.toNat (a : Int) * 1)) (.int .i64 x77)) w9 fun w10 =>
          LETI (j : Int) fun np => Q (.tuple #[.int .i64 np, .bool bb]) w10 := fun {i j D' w' bb} hP hgt h => by
    have l := lD hP
    have hj := hP.jb
    obtain ⟨f1, f2, f3, f4, f5⟩ := hP.done hgt (by omega)
    refine h.arrR .head l (by omega) ?_
    refine h.arrR .head l (by omega) ?_
    refine h.arrW .head l (by omega) fun w' h => ?_
    refine h.arrW .head (by rw [List.length_set]; exact l) (by omega) fun w' h => ?_
    exact leti rfl (hk _ j bb _ f1 f2 f3 f4 f5 h)
  refine scanU h (lD hP) hbn hb hP fun i w' hP hi h => ?_
  refine scanD h (lD hP) hbn hb hP fun j w' hP hjj hj h => ?_
  have h := h.drew
  refine ifd (fun hgt => fin hP (by omega) h) fun hle => ?_
  obtain ⟨hP2, hij⟩ := hP.swap (by omega) (hi (by omega)) (hj (by omega)) (by rw [lD hP]; omega)
  have hjb := hP.jb
  have l := lD hP
  refine h.arrR .head l (by omega) ?_
  refine h.arrR .head l (by omega) ?_
  refine h.arrW .head l (by omega) fun w' h => ?_
  refine h.arrW .head (by rw [List.length_set]; exact l) (by omega) fun w' h => ?_
  have h : St c w' (own 3 1 A n k ((swp D1 i j).flatMap iv) :: L) := h
  refine leti (y := ((i + 1 : Nat) : Int)) (by rw [wrap_i64 (by omega) (by omega)]; omega) (leti (y := ((j - 1 : Nat) : Int)) (by rw [wrap_i64 (by omega) (by omega)]; omega) ?_)
  refine ⟨fun x w' => ∃ (i j : Nat) (D' : List Int), x = j ∧ PI a b D pv i j D' ∧ j < i ∧ St c w' (own 3 1 A n k (D'.flatMap iv) :: L), ⟨fun m x y w' => ∃ (i j : Nat) (D' : List Int), x = i ∧ y = j ∧ m = j ∧ PI a b D pv i j D' ∧ St c w' (own 3 1 A n k (D'.flatMap iv) :: L), ⟨_, i + 1, j - 1, _, rfl, rfl, rfl, hP2, h⟩, ?_⟩, ?_⟩
  · clear h hP hP2 hi hj hij hle hjj hjb l
    rintro m _ _ w' ⟨i, j, D', rfl, rfl, rfl, hP, h⟩
    refine scanU h (lD hP) hbn hb hP fun i w' hP hi h => ?_
    refine scanD h (lD hP) hbn hb hP fun j w' hP hjj hj h => ?_
    refine ifd (fun hgt => ⟨i, j, D', rfl, hP, by omega, h⟩) fun hle => ?_
    obtain ⟨hP2, hij⟩ := hP.swap (by omega) (hi (by omega)) (hj (by omega)) (by rw [lD hP]; omega)
    have hjb := hP.jb
    have l := lD hP
    have h := h.drew
    refine h.arrR .head l (by omega) ?_
    refine h.arrR .head l (by omega) ?_
    refine h.arrW .head l (by omega) fun w' h => ?_
    refine h.arrW .head (by rw [List.length_set]; exact l) (by omega) fun w' h => ?_
    exact leti (y := ((i + 1 : Nat) : Int)) (by rw [wrap_i64 (by omega) (by omega)]; omega) (leti (y := ((j - 1 : Nat) : Int)) (by rw [wrap_i64 (by omega) (by omega)]; omega) ⟨j - 1, by omega, i + 1, j - 1, _, rfl, rfl, rfl, hP2, h⟩)
  · rintro _ w' ⟨i, j, D', rfl, hP, hgt, h⟩
    exact fin hP hgt h.drew
end
end Go.Br
