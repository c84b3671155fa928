/- RepBars, RepDraw -/
import Derived.Test.YtbmbimholikljaaDoorBrSeat
import Derived.Test.YtbmbimholikljaaDoorJRepAlive
import Derived.Test.YtbmbimholikljaaDoorJNumText
import Derived.Test.YtbmbimholikljaaDoorStrRep
/- What the code of some functions says, as the core reads it; each reading is checked by the kernel. -/
set_option linter.unusedVariables false
set_option maxRecDepth 100000
namespace Go.Br
open Go Go.Proofs

/-- brougham/report.Bars -/
def N4 (fromv : Int) (width : Int) (many : Int) (l : Option Addr) (lN lC : Nat) (w : World) (Q : Value → World → Prop) : Prop :=
 IFB (decide (many < (1 : Int)))
 (Q (.slice none 0 0) w)
 (IFB (decide (many > (64 : Int)))
 (Q (.slice none 0 0) w)
 (IFB (decide (width < (1 : Int)))
 (Q (.slice none 0 0) w)
 (IFB (decide (width > (1073741824 : Int)))
 (Q (.slice none 0 0) w)
 (RUNL PG (Instr.makeSlice 22 (.int .i64 many) (.int .i64 many)) w fun x28 x28N x28C w1 =>
 CALL PG 10 [(.int .i64 fromv)] w1 fun v w2 =>
 ∃ x30 : Int, v = (.int .i64 x30) ∧
 (LETI x30 fun fromv1 =>
 ∃ I : Nat → Int → World → Prop,
 (∃ m, I m (0 : Int) w2) ∧
 (∀ m1 (x33 : Int) (w3 : World), I m1 x33 w3 → (IFB (decide (x33 < (lN : Int)))
 (IDX l lN x33 fun a35 =>
 RDI PG (loadVar 3 (Addr.add a35 (Int.toNat x33 * 1))) .i64 w3 fun x36 =>
 LETI x36 fun n =>
 CALL PG 10 [(.int .i64 n)] w3 fun v1 w4 =>
 ∃ x38 : Int, v1 = (.int .i64 x38) ∧
 (LETI x38 fun n1 =>
 IFB (decide (n1 > fromv1))
 (NEED (width ≠ 0)
 (LETI (minN (IntKind.i64.wrap (Int.tdiv (IntKind.i64.wrap (n1 - fromv1)) width)) (IntKind.i64.wrap (many - (1 : Int)))) fun i =>
 IDX x28 x28N i fun a52 =>
 RDI PG (loadVar 3 (Addr.add a52 (Int.toNat i * 1))) .i64 w4 fun x53 =>
 IDX x28 x28N i fun a55 =>
 RUNU PG (storeVar 3 (Addr.add a55 (Int.toNat i * 1)) (.int .i64 (IntKind.i64.wrap (x53 + (1 : Int))))) w4 fun w5 =>
 ∃ m2, m2 < m1 ∧ I m2 (IntKind.i64.wrap (x33 + (1 : Int))) w5))
 (IDX x28 x28N (0 : Int) fun a52v1 =>
 RDI PG (loadVar 3 (Addr.add a52v1 (Int.toNat (0 : Int) * 1))) .i64 w4 fun x53v1 =>
 IDX x28 x28N (0 : Int) fun a55v1 =>
 RUNU PG (storeVar 3 (Addr.add a55v1 (Int.toNat (0 : Int) * 1)) (.int .i64 (IntKind.i64.wrap (x53v1 + (1 : Int))))) w4 fun w6 =>
 ∃ m3, m3 < m1 ∧ I m3 (IntKind.i64.wrap (x33 + (1 : Int))) w6)))
 (Q (.slice x28 x28N x28C) w3))))))))
theorem eq4 : ∀ (fromv : Int) (width : Int) (many : Int) (l : Option Addr) (lN lC : Nat) (w : World) (Q : Value → World → Prop), vcF PG TB Tryd.f4 (.s .nil (.s .nil (.s .nil (.s .nil (.s (.s .nil (.u (.loop [(33, 3)] .nil))) .nil))))) [(.int .i64 fromv), (.int .i64 width), (.int .i64 many), (.slice l lN lC)] w Q = N4 fromv width many l lN lC w Q := by intros; kernel_rfl
theorem call4 {fromv : Int} {width : Int} {many : Int} {l : Option Addr} {lN lC : Nat} {w : World} {Q : Value → World → Prop} (hN : N4 fromv width many l lN lC w Q) : CALL PG 4 [(.int .i64 fromv), (.int .i64 width), (.int .i64 many), (.slice l lN lC)] w Q := calls_vc tabOk Tryd.func4 (by rw [eq4]; exact hN)

/-- brougham/broughamref37.Bars -/
def N6 (fromv : Int) (width : Int) (many : Int) (l : Option Addr) (lN lC : Nat) (w : World) (Q : Value → World → Prop) : Prop :=
 IFB (decide (many < (1 : Int)))
 (Q (.slice none 0 0) w)
 (IFB (decide (many > (64 : Int)))
 (Q (.slice none 0 0) w)
 (IFB (decide (width < (1 : Int)))
 (Q (.slice none 0 0) w)
 (IFB (decide (width > (1073741824 : Int)))
 (Q (.slice none 0 0) w)
 (RUNL PG (Instr.makeSlice 22 (.int .i64 many) (.int .i64 many)) w fun x27 x27N x27C w1 =>
 ∃ I : Nat → Int → World → Prop,
 (∃ m, I m (0 : Int) w1) ∧
 (∀ m1 (i : Int) (w2 : World), I m1 i w2 → (IFB (decide (i < (lN : Int)))
 (∃ R : Int → World → Prop,
 (IDX l lN i fun a36 =>
 RDI PG (loadVar 3 (Addr.add a36 (Int.toNat i * 1))) .i64 w2 fun x37 =>
 CALL PG 11 [(.int .i64 x37)] w2 fun v w3 =>
 ∃ x38 : Int, v = (.int .i64 x38) ∧
 (CALL PG 11 [(.int .i64 fromv)] w3 fun v1 w4 =>
 ∃ x40 : Int, v1 = (.int .i64 x40) ∧
 (IFB (decide (x38 > x40))
 (IDX l lN i fun a44 =>
 RDI PG (loadVar 3 (Addr.add a44 (Int.toNat i * 1))) .i64 w4 fun x45 =>
 CALL PG 11 [(.int .i64 x45)] w4 fun v2 w5 =>
 ∃ x46 : Int, v2 = (.int .i64 x46) ∧
 (CALL PG 11 [(.int .i64 fromv)] w5 fun v3 w6 =>
 ∃ x48 : Int, v3 = (.int .i64 x48) ∧
 (NEED (width ≠ 0)
 (LETI (IntKind.i64.wrap (Int.tdiv (IntKind.i64.wrap (x46 - x48)) width)) fun atv =>
 R atv w6))))
 (R (0 : Int) w4)))) ∧
 (∀ (atv1 : Int) (w7 : World), R atv1 w7 → (IFB (decide (atv1 > (IntKind.i64.wrap (many - (1 : Int)))))
 (LETI (IntKind.i64.wrap (many - (1 : Int))) fun atv2 =>
 IDX x27 x27N atv2 fun a60 =>
 RDI PG (loadVar 3 (Addr.add a60 (Int.toNat atv2 * 1))) .i64 w7 fun x61 =>
 IDX x27 x27N atv2 fun a63 =>
 RUNU PG (storeVar 3 (Addr.add a63 (Int.toNat atv2 * 1)) (.int .i64 (IntKind.i64.wrap (x61 + (1 : Int))))) w7 fun w8 =>
 LETI (IntKind.i64.wrap (i + (1 : Int))) fun i1 =>
 ∃ m2, m2 < m1 ∧ I m2 i1 w8)
 (IDX x27 x27N atv1 fun a60v1 =>
 RDI PG (loadVar 3 (Addr.add a60v1 (Int.toNat atv1 * 1))) .i64 w7 fun x61v1 =>
 IDX x27 x27N atv1 fun a63v1 =>
 RUNU PG (storeVar 3 (Addr.add a63v1 (Int.toNat atv1 * 1)) (.int .i64 (IntKind.i64.wrap (x61v1 + (1 : Int))))) w7 fun w9 =>
 LETI (IntKind.i64.wrap (i + (1 : Int))) fun i2 =>
 ∃ m3, m3 < m1 ∧ I m3 i2 w9))))
 (Q (.slice x27 x27N x27C) w2)))))))
theorem eq6 : ∀ (fromv : Int) (width : Int) (many : Int) (l : Option Addr) (lN lC : Nat) (w : World) (Q : Value → World → Prop), vcF PG TB Tryd.f6 (.s .nil (.s .nil (.s .nil (.s (.s .nil (.u (.loop [(10, 3)] (.s .nil (.s (.u (.s .nil (.cut [(11, 3)] .nil .nil))) .nil))))) .nil)))) [(.int .i64 fromv), (.int .i64 width), (.int .i64 many), (.slice l lN lC)] w Q = N6 fromv width many l lN lC w Q := by intros; kernel_rfl
theorem call6 {fromv : Int} {width : Int} {many : Int} {l : Option Addr} {lN lC : Nat} {w : World} {Q : Value → World → Prop} (hN : N6 fromv width many l lN lC w Q) : CALL PG 6 [(.int .i64 fromv), (.int .i64 width), (.int .i64 many), (.slice l lN lC)] w Q := calls_vc tabOk Tryd.func6 (by rw [eq6]; exact hN)

end Go.Br

/- How many numbers lie in each row, and numbers as rows of signs: what a call does, of the program and of the document. -/
set_option linter.unusedVariables false
set_option linter.unusedSimpArgs false
set_option linter.unnecessarySimpa false
namespace Go.Br
open Go
attribute [local irreducible] Addr.add RD RDS RUN RUNU NILC LETB CALL CALLX CALLV

theorem tiIntB : TI PG 3 1 8 (.int .i64 0) := tiOf (by kernel_rfl)
theorem huIntsB : PG.underlying 22 = some (.slice 3) := by kernel_rfl
theorem zeros_ivB (n : Nat) : zeros (Value.int .i64 0).cells.toList n = (List.replicate n (0 : Int)).flatMap iv := by
  have e : (Value.int .i64 0).cells.toList = [.int .i64 0] := rfl
  rw [e, zeros_one]
  induction n with
  | zero => rfl
  | succ n ih => rw [List.replicate_succ, List.replicate_succ, List.flatMap_cons, ← ih]; rfl
/-- The row of a number. -/
def barIx (fr width many n : Int) : Nat := (if clampI fr < clampI n then (if many - 1 < Int.tdiv (clampI n - clampI fr) width then many - 1 else Int.tdiv (clampI n - clampI fr) width) else 0).toNat
def incrB (b : List Int) (i : Nat) : List Int := b.set i (at0 b i + 1)
def barsOf (fr width many : Int) (l : List Int) : List Int := l.foldl (fun b n => incrB b (barIx fr width many n)) (List.replicate many.toNat 0)
def BarsOk (width many : Int) : Prop := 1 ≤ many ∧ many ≤ 64 ∧ 1 ≤ width ∧ width ≤ 1073741824
instance (width many : Int) : Decidable (BarsOk width many) := by unfold BarsOk; infer_instance
def barsL (fr width many : Int) (l : List Int) : List Int := if BarsOk width many then barsOf fr width many l else []
theorem tdiv_bd {a b : Int} (ha : 0 ≤ a) (hb : 1 ≤ b) : 0 ≤ Int.tdiv a b ∧ Int.tdiv a b ≤ a := by
  rw [Int.tdiv_eq_ediv_of_nonneg ha]
  exact ⟨Int.ediv_nonneg ha (by omega), Int.ediv_le_self b ha⟩
theorem barIx_lt {fr width many n : Int} (h : BarsOk width many) : barIx fr width many n < many.toNat ∧ ((barIx fr width many n : Nat) : Int) = (if clampI fr < clampI n then (if many - 1 < Int.tdiv (clampI n - clampI fr) width then many - 1 else Int.tdiv (clampI n - clampI fr) width) else 0) := by
  obtain ⟨h1, h2, h3, h4⟩ := h
  unfold barIx
  split
  · rename_i hl
    have := tdiv_bd (a := clampI n - clampI fr) (b := width) (by omega) h3
    split <;> omega
  · omega
theorem incrB_length (b : List Int) (i : Nat) : (incrB b i).length = b.length := by simp [incrB]
theorem incrB_sum : ∀ (b : List Int) (i : Nat), i < b.length → sumI (incrB b i) = sumI b + 1
  | [], i, h => by simp at h
  | x :: b, 0, h => by simp [incrB, at0, sumI_cons]; omega
  | x :: b, i + 1, h => by
    have := incrB_sum b i (by simpa using h)
    simp only [incrB, List.set_cons_succ, sumI_cons] at this ⊢
    rw [show at0 (x :: b) (i + 1) = at0 b i by simp [at0], this]
    omega
theorem barsOf_snoc {fr width many : Int} {l : List Int} {j : Nat} (h : j < l.length) : barsOf fr width many (l.take (j + 1)) = incrB (barsOf fr width many (l.take j)) (barIx fr width many (at0 l j)) := by
  have : l.take (j + 1) = l.take j ++ [at0 l j] := by rw [List.take_add_one, at0_get h]; rfl
  rw [this, barsOf, List.foldl_append]
  rfl
theorem barsOf_facts {fr width many : Int} (hb : BarsOk width many) : ∀ {l : List Int} {j : Nat}, j ≤ l.length → (barsOf fr width many (l.take j)).length = many.toNat ∧ sumI (barsOf fr width many (l.take j)) = j ∧ ∀ i, 0 ≤ at0 (barsOf fr width many (l.take j)) i ∧ at0 (barsOf fr width many (l.take j)) i ≤ j := by
  intro l j
  induction j with
  | zero =>
    intro _
    refine ⟨by simp [barsOf], ?_, fun i => ?_⟩
    · have : ∀ n : Nat, sumI (List.replicate n 0) = 0 := fun n => by induction n with | zero => rfl | succ n ih => rw [List.replicate_succ, sumI_cons, ih]; rfl
      simpa [barsOf] using this _
    · simp only [List.take_zero, barsOf, List.foldl_nil, at0, List.getD_eq_getElem?_getD, List.getElem?_replicate]
      split <;> simp
  | succ j ih =>
    intro hj
    obtain ⟨h1, h2, h3⟩ := ih (by omega)
    have hl := (barIx_lt (fr := fr) (n := at0 l j) hb).1
    rw [barsOf_snoc (by omega)]
    refine ⟨by rw [incrB_length, h1], by rw [incrB_sum _ _ (by omega), h2]; omega, fun i => ?_⟩
    have hi := h3 i
    have hx := h3 (barIx fr width many (at0 l j))
    simp only [incrB, at0, List.getD_eq_getElem?_getD, List.getElem?_set] at hi hx ⊢
    split
    · split
      · simp only [Option.getD_some]; omega
      · simp; omega
    · omega
section
variable {c : Ctx} {w : World} {L R : List SA} {A : Option Addr} {k : Nat}
theorem bars_ok (h : St c w L) {fr width many : Int} {l : List Int} (hr : RdIn L A (l.flatMap iv)) (hl : l.length ≤ 1000) {Q : Value → World → Prop}
    (hk : ∀ O d w', St c w' (own 3 1 O (barsL fr width many l).length d ((barsL fr width many l).flatMap iv) :: L) → Q (.slice O (barsL fr width many l).length d) w') : CALL PG 4 [.int .i64 fr, .int .i64 width, .int .i64 many, .slice A l.length k] w Q := by
  have out : ¬ BarsOk width many → Q (.slice none 0 0) w := fun hb => by
    have e : barsL fr width many l = [] := if_neg hb
    rw [e] at hk
    exact hk none 0 _ (h.addOwnNil _ _)
  refine call4 ?_
  unfold N4
  refine ifd (fun e => out (fun hb => by have := hb.1; omega)) fun h1 => ?_
  refine ifd (fun e => out (fun hb => by have := hb.2.1; omega)) fun h2 => ?_
  refine ifd (fun e => out (fun hb => by have := hb.2.2.1; omega)) fun h3 => ?_
  refine ifd (fun e => out (fun hb => by have := hb.2.2.2; omega)) fun h4 => ?_
  have hb : BarsOk width many := ⟨by omega, by omega, by omega, by omega⟩
  clear out
  have e : barsL fr width many l = barsOf fr width many l := if_pos hb
  rw [e] at hk
  refine h.make huIntsB tiIntB (by omega) (by omega) (by omega) (by omega) fun p w' h => ?_
  rw [zeros_ivB] at h
  have h := h.enth (blk_own (k := many.toNat) (z := 1) (by rw [flat_length iv_length]; simp))
  refine clamp_ok ?_
  (repeat (first | apply Exists.intro (α := Int) | apply Exists.intro (α := Bool) | apply Exists.intro (α := ByteArray) | (apply Exists.intro (α := Option Addr); apply Exists.intro (α := Nat); apply Exists.intro (α := Nat)) | apply Exists.intro (α := Option Addr) | apply Exists.intro (α := Value)))
  refine ⟨rfl, ?_⟩
  refine leti rfl ?_
  refine ⟨fun m x w => ∃ j : Nat, x = j ∧ m = l.length - j ∧ j ≤ l.length ∧ St c w (own 3 1 (some ⟨p, 0, none⟩) many.toNat many.toNat ((barsOf fr width many (l.take j)).flatMap iv) :: L), ⟨_, 0, rfl, rfl, Nat.zero_le _, h⟩, ?_⟩
  clear h
  rintro m x w' ⟨j, rfl, rfl, hj, h⟩
  obtain ⟨b1, b2, b3⟩ := barsOf_facts (fr := fr) hb hj
  by_cases hjl : j < l.length
  rotate_left
  · obtain rfl : j = l.length := by omega
    refine ifdf (by omega) ?_
    rw [List.take_length] at h b1
    have := hk (some ⟨p, 0, none⟩) many.toNat w' (by rw [b1]; exact h)
    rwa [b1] at this
  refine ifdt (by omega) ?_
  refine h.ix (z := 0) hr.more (at0_get hjl) (fun a ha => ?_) (by omega)
  subst ha
  refine h.rdWI hr.more (at0_get hjl) (leti rfl ?_)
  refine clamp_ok ?_
  (repeat (first | apply Exists.intro (α := Int) | apply Exists.intro (α := Bool) | apply Exists.intro (α := ByteArray) | (apply Exists.intro (α := Option Addr); apply Exists.intro (α := Nat); apply Exists.intro (α := Nat)) | apply Exists.intro (α := Option Addr) | apply Exists.intro (α := Value)))
  refine ⟨rfl, ?_⟩
  refine leti rfl ?_
  obtain ⟨x1, x2⟩ := barIx_lt (fr := fr) (n := at0 l j) hb
  have c1 := clampI_bd fr
  have c2 := clampI_bd (at0 l j)
  have e3 : IntKind.i64.wrap ((j : Int) + 1) = ((j + 1 : Nat) : Int) := by rw [wrap_i64 (by omega) (by omega)]; rfl
  have hx3 := b3 (barIx fr width many (at0 l j))
  have e4 : IntKind.i64.wrap (at0 (barsOf fr width many (l.take j)) (barIx fr width many (at0 l j)) + 1) = at0 (barsOf fr width many (l.take j)) (barIx fr width many (at0 l j)) + 1 := wrap_i64 (by omega) (by omega)
  have rd : ∀ {X : List Int}, RdIn (own 3 1 (some ⟨p, 0, none⟩) many.toNat many.toNat (X.flatMap iv) :: L) (some ⟨p, 0, none⟩) (X.flatMap iv) := RdIn.own .head
  refine ifd (fun hlt => ?_) fun hge => ?_
  · rw [if_pos hlt] at x2
    have t := tdiv_bd (a := clampI (at0 l j) - clampI fr) (b := width) (by omega) (by omega)
    refine ⟨by omega, leti (y := ((barIx fr width many (at0 l j) : Nat) : Int)) ?_ ?_⟩
    · rw [x2, wrap_i64 (n := clampI (at0 l j) - clampI fr) (by omega) (by omega), wrap_i64 (by omega) (by omega), wrap_i64 (n := many - 1) (by omega) (by omega)]
      rfl
    refine h.ix (z := 0) rd (at0_get (D := barsOf fr width many (l.take j)) (i := barIx fr width many (at0 l j)) (by omega)) (fun a ha => ?_) (by omega)
    injection ha with ha
    subst ha
    refine h.rdWI rd (at0_get (D := barsOf fr width many (l.take j)) (i := barIx fr width many (at0 l j)) (by omega)) ?_
    refine h.ix (z := 0) rd (at0_get (D := barsOf fr width many (l.take j)) (i := barIx fr width many (at0 l j)) (by omega)) (fun a ha => ?_) (by omega)
    injection ha with ha
    subst ha
    rw [e4]
    refine h.stE .head (by omega) _ (iv_flat1 _) fun w' h => ?_
    exact ⟨l.length - (j + 1), by omega, j + 1, e3, rfl, by omega, by rw [barsOf_snoc hjl]; exact h⟩
  · rw [if_neg (by omega)] at x2
    have x0 : barIx fr width many (at0 l j) = 0 := by omega
    rw [x0] at e4
    refine h.ix (z := 0) (i := 0) rd (at0_get (D := barsOf fr width many (l.take j)) (i := 0) (by omega)) (fun a ha => ?_) (by omega)
    injection ha with ha
    subst ha
    refine h.rdWI (i := 0) rd (at0_get (D := barsOf fr width many (l.take j)) (i := 0) (by omega)) ?_
    refine h.ix (z := 0) (i := 0) rd (at0_get (D := barsOf fr width many (l.take j)) (i := 0) (by omega)) (fun a ha => ?_) (by omega)
    injection ha with ha
    subst ha
    rw [e4]
    refine h.stE (i := 0) .head (by omega) _ (iv_flat1 _) fun w' h => ?_
    exact ⟨l.length - (j + 1), by omega, j + 1, e3, rfl, by omega, by rw [barsOf_snoc hjl, x0]; exact h⟩
theorem rbars_ok (h : St c w L) {fr width many : Int} {l : List Int} (hr : RdIn L A (l.flatMap iv)) (hl : l.length ≤ 1000) {Q : Value → World → Prop}
    (hk : ∀ O d w', St c w' (own 3 1 O (barsL fr width many l).length d ((barsL fr width many l).flatMap iv) :: L) → Q (.slice O (barsL fr width many l).length d) w') : CALL PG 6 [.int .i64 fr, .int .i64 width, .int .i64 many, .slice A l.length k] w Q := by
  have out : ¬ BarsOk width many → Q (.slice none 0 0) w := fun hb => by
    have e : barsL fr width many l = [] := if_neg hb
    rw [e] at hk
    exact hk none 0 _ (h.addOwnNil _ _)
  refine call6 ?_
  unfold N6
  refine ifd (fun e => out (fun hb => by have := hb.1; omega)) fun h1 => ?_
  refine ifd (fun e => out (fun hb => by have := hb.2.1; omega)) fun h2 => ?_
  refine ifd (fun e => out (fun hb => by have := hb.2.2.1; omega)) fun h3 => ?_
  refine ifd (fun e => out (fun hb => by have := hb.2.2.2; omega)) fun h4 => ?_
  have hb : BarsOk width many := ⟨by omega, by omega, by omega, by omega⟩
  clear out
  have e : barsL fr width many l = barsOf fr width many l := if_pos hb
  rw [e] at hk
  refine h.make huIntsB tiIntB (by omega) (by omega) (by omega) (by omega) fun p w' h => ?_
  rw [zeros_ivB] at h
  have h := h.enth (blk_own (k := many.toNat) (z := 1) (by rw [flat_length iv_length]; simp))
  refine ⟨fun m x w => ∃ j : Nat, x = j ∧ m = l.length - j ∧ j ≤ l.length ∧ St c w (own 3 1 (some ⟨p, 0, none⟩) many.toNat many.toNat ((barsOf fr width many (l.take j)).flatMap iv) :: L), ⟨_, 0, rfl, rfl, Nat.zero_le _, h⟩, ?_⟩
  clear h
  rintro m x w' ⟨j, rfl, rfl, hj, h⟩
  obtain ⟨b1, b2, b3⟩ := barsOf_facts (fr := fr) hb hj
  by_cases hjl : j < l.length
  rotate_left
  · obtain rfl : j = l.length := by omega
    refine ifdf (by omega) ?_
    rw [List.take_length] at h b1
    have := hk (some ⟨p, 0, none⟩) many.toNat w' (by rw [b1]; exact h)
    rwa [b1] at this
  refine ifdt (by omega) ?_
  obtain ⟨x1, x2⟩ := barIx_lt (fr := fr) (n := at0 l j) hb
  have c1 := clampI_bd fr
  have c2 := clampI_bd (at0 l j)
  have e3 : IntKind.i64.wrap ((j : Int) + 1) = ((j + 1 : Nat) : Int) := by rw [wrap_i64 (by omega) (by omega)]; rfl
  have hx3 := b3 (barIx fr width many (at0 l j))
  have e4 : IntKind.i64.wrap (at0 (barsOf fr width many (l.take j)) (barIx fr width many (at0 l j)) + 1) = at0 (barsOf fr width many (l.take j)) (barIx fr width many (at0 l j)) + 1 := wrap_i64 (by omega) (by omega)
  have rd : ∀ {X : List Int}, RdIn (own 3 1 (some ⟨p, 0, none⟩) many.toNat many.toNat (X.flatMap iv) :: L) (some ⟨p, 0, none⟩) (X.flatMap iv) := RdIn.own .head
  refine ⟨fun a w => a = (if clampI fr < clampI (at0 l j) then Int.tdiv (clampI (at0 l j) - clampI fr) width else 0) ∧ St c w (own 3 1 (some ⟨p, 0, none⟩) many.toNat many.toNat ((barsOf fr width many (l.take j)).flatMap iv) :: L), ?_, ?_⟩
  · refine h.ix (z := 0) hr.more (at0_get hjl) (fun a ha => ?_) (by omega)
    have hra := hr
    rw [ha] at hra
    refine h.rdWI hra.more (at0_get hjl) ?_
    refine rclamp_ok ?_
    (repeat (first | apply Exists.intro (α := Int) | apply Exists.intro (α := Bool) | apply Exists.intro (α := ByteArray) | (apply Exists.intro (α := Option Addr); apply Exists.intro (α := Nat); apply Exists.intro (α := Nat)) | apply Exists.intro (α := Option Addr) | apply Exists.intro (α := Value)))
    refine ⟨rfl, ?_⟩
    refine rclamp_ok ?_
    (repeat (first | apply Exists.intro (α := Int) | apply Exists.intro (α := Bool) | apply Exists.intro (α := ByteArray) | (apply Exists.intro (α := Option Addr); apply Exists.intro (α := Nat); apply Exists.intro (α := Nat)) | apply Exists.intro (α := Option Addr) | apply Exists.intro (α := Value)))
    refine ⟨rfl, ?_⟩
    refine ifd (fun hlt => ?_) fun hge => ⟨by rw [if_neg (by omega)], h⟩
    refine h.ix (z := 0) hr.more (at0_get hjl) (fun b hb => ?_) (by omega)
    have hrb := hr
    rw [hb] at hrb
    refine h.rdWI hrb.more (at0_get hjl) ?_
    refine rclamp_ok ?_
    (repeat (first | apply Exists.intro (α := Int) | apply Exists.intro (α := Bool) | apply Exists.intro (α := ByteArray) | (apply Exists.intro (α := Option Addr); apply Exists.intro (α := Nat); apply Exists.intro (α := Nat)) | apply Exists.intro (α := Option Addr) | apply Exists.intro (α := Value)))
    refine ⟨rfl, ?_⟩
    refine rclamp_ok ?_
    (repeat (first | apply Exists.intro (α := Int) | apply Exists.intro (α := Bool) | apply Exists.intro (α := ByteArray) | (apply Exists.intro (α := Option Addr); apply Exists.intro (α := Nat); apply Exists.intro (α := Nat)) | apply Exists.intro (α := Option Addr) | apply Exists.intro (α := Value)))
    refine ⟨rfl, ?_⟩
    have t := tdiv_bd (a := clampI (at0 l j) - clampI fr) (b := width) (by omega) (by omega)
    refine ⟨by omega, leti (y := Int.tdiv (clampI (at0 l j) - clampI fr) width) ?_ ⟨by rw [if_pos (by omega)], h⟩⟩
    rw [wrap_i64 (n := clampI (at0 l j) - clampI fr) (by omega) (by omega), wrap_i64 (by omega) (by omega)]
  clear h
  rintro _ w' ⟨rfl, h⟩
  rw [wrap_i64 (n := many - 1) (by omega) (by omega)]
  have fin : ∀ {w' : World}, St c w' (own 3 1 (some ⟨p, 0, none⟩) many.toNat many.toNat ((incrB (barsOf fr width many (l.take j)) (barIx fr width many (at0 l j))).flatMap iv) :: L) → ∃ m2, m2 < l.length - j ∧ ∃ j' : Nat, ((j + 1 : Nat) : Int) = j' ∧ m2 = l.length - j' ∧ j' ≤ l.length ∧ St c w' (own 3 1 (some ⟨p, 0, none⟩) many.toNat many.toNat ((barsOf fr width many (l.take j')).flatMap iv) :: L) := fun h =>
    ⟨l.length - (j + 1), by omega, j + 1, rfl, rfl, by omega, by rw [barsOf_snoc hjl]; exact h⟩
  have go : ∀ {v : Int}, v = ((barIx fr width many (at0 l j) : Nat) : Int) → IDX (some ⟨p, 0, none⟩) many.toNat v fun a60 =>
      RDI PG (loadVar 3 (Addr.add a60 (Int.toNat v * 1))) .i64 w' fun x61 =>
      IDX (some ⟨p, 0, none⟩) many.toNat v fun a63 =>
      RUNU PG (storeVar 3 (Addr.add a63 (Int.toNat v * 1)) (.int .i64 (IntKind.i64.wrap (x61 + (1 : Int))))) w' fun w8 =>
      LETI (IntKind.i64.wrap ((j : Int) + (1 : Int))) fun i1 =>
      ∃ m2, m2 < l.length - j ∧ ∃ j' : Nat, i1 = j' ∧ m2 = l.length - j' ∧ j' ≤ l.length ∧ St c w8 (own 3 1 (some ⟨p, 0, none⟩) many.toNat many.toNat ((barsOf fr width many (l.take j')).flatMap iv) :: L) := by
    intro v hv
    subst hv
    refine h.ix (z := 0) rd (at0_get (D := barsOf fr width many (l.take j)) (i := barIx fr width many (at0 l j)) (by omega)) (fun a ha => ?_) (by omega)
    injection ha with ha
    subst ha
    refine h.rdWI rd (at0_get (D := barsOf fr width many (l.take j)) (i := barIx fr width many (at0 l j)) (by omega)) ?_
    refine h.ix (z := 0) rd (at0_get (D := barsOf fr width many (l.take j)) (i := barIx fr width many (at0 l j)) (by omega)) (fun a ha => ?_) (by omega)
    injection ha with ha
    subst ha
    rw [e4]
    refine h.stE .head (by omega) _ (iv_flat1 _) fun w' h => ?_
    exact leti e3 (fin h)
  split at x2
  · rename_i hlt
    rw [if_pos hlt]
    split at x2
    · rename_i hgt
      refine ifdt hgt (leti rfl ?_)
      exact go x2.symm
    · rename_i hgt
      exact ifdf hgt (go x2.symm)
  · rename_i hlt
    rw [if_neg hlt]
    exact ifdf (by omega) (go x2.symm)
end
end Go.Br

/- What the code of some functions says, as the core reads it; each reading is checked by the kernel. -/
set_option linter.unusedVariables false
set_option maxRecDepth 100000
namespace Go.Br
open Go Go.Proofs

/-- brougham/broughamlaw37.ReportBars -/
def N3 (l : Option Addr) (lN lC : Nat) (x : Int) (x1 : Int) (x2 : Int) (w : World) (Q : Value → World → Prop) : Prop :=
 RUNA PG (Instr.box 24 (.agg #[(.int .i64 x), (.int .i64 x1), (.int .i64 x2)])) w fun a3 w1 =>
 IFB (decide ((lN : Int) > (300 : Int)))
 (Q (.bool true) w1)
 (RDI PG (loadVar 3 (Addr.add a3 0)) .i64 w1 fun x12 =>
 RDI PG (loadVar 3 (Addr.add a3 1)) .i64 w1 fun x14 =>
 RDI PG (loadVar 3 (Addr.add a3 2)) .i64 w1 fun x16 =>
 CALL PG 4 [(.int .i64 x12), (.int .i64 x14), (.int .i64 x16), (.slice l lN lC)] w1 fun v w2 =>
 ∃ (x18 : Option Addr) (x18N x18C : Nat), v = (.slice x18 x18N x18C) ∧
 (∃ I : Nat → Int → Int → World → Prop,
 (∃ m, I m (0 : Int) (0 : Int) w2) ∧
 (∀ m1 (sum : Int) (i : Int) (w3 : World), I m1 sum i w3 → (IFB (decide (i < (x18N : Int)))
 (IDX x18 x18N i fun a28 =>
 RDI PG (loadVar 3 (Addr.add a28 (Int.toNat i * 1))) .i64 w3 fun x29 =>
 LETI (IntKind.i64.wrap (sum + x29)) fun sum1 =>
 LETI (IntKind.i64.wrap (i + (1 : Int))) fun i1 =>
 ∃ m2, m2 < m1 ∧ I m2 sum1 i1 w3)
 (RDI PG (loadVar 3 (Addr.add a3 0)) .i64 w3 fun x33 =>
 RDI PG (loadVar 3 (Addr.add a3 1)) .i64 w3 fun x35 =>
 RDI PG (loadVar 3 (Addr.add a3 2)) .i64 w3 fun x37 =>
 CALL PG 6 [(.int .i64 x33), (.int .i64 x35), (.int .i64 x37), (.slice l lN lC)] w3 fun v1 w4 =>
 ∃ (x39 : Option Addr) (x39N x39C : Nat), v1 = (.slice x39 x39N x39C) ∧
 (CALL PG 5 [(.slice x18 x18N x18C), (.slice x39 x39N x39C)] w4 fun v2 w5 =>
 ∃ x40 : Bool, v2 = (.bool x40) ∧
 (IFB x40
 (IFB ((x18N : Int) == (0 : Int))
 (CALL PG 7 [(.slice l lN lC)] w5 fun v3 w6 =>
 ∃ x54 : ByteArray, v3 = (.string x54) ∧
 (CALL PG 8 [(.slice l lN lC)] w6 fun v4 w7 =>
 ∃ x56 : ByteArray, v4 = (.string x56) ∧
 (IFB (x54.toList == x56.toList)
 (CALL PG 9 [] w7 fun v5 w8 =>
 ∃ x60 : Bool, v5 = (.bool x60) ∧
 (LETB x60 fun x4 =>
 Q (.bool x4) w8))
 (LETB false fun x4v1 =>
 Q (.bool x4v1) w7))))
 (IFB (sum == (lN : Int))
 (CALL PG 7 [(.slice l lN lC)] w5 fun v6 w9 =>
 ∃ x54v1 : ByteArray, v6 = (.string x54v1) ∧
 (CALL PG 8 [(.slice l lN lC)] w9 fun v7 w10 =>
 ∃ x56v1 : ByteArray, v7 = (.string x56v1) ∧
 (IFB (x54v1.toList == x56v1.toList)
 (CALL PG 9 [] w10 fun v8 w11 =>
 ∃ x60v1 : Bool, v8 = (.bool x60v1) ∧
 (LETB x60v1 fun x4v2 =>
 Q (.bool x4v2) w11))
 (LETB false fun x4v3 =>
 Q (.bool x4v3) w10))))
 (LETB false fun x4v4 =>
 Q (.bool x4v4) w5)))
 (LETB false fun x4v5 =>
 Q (.bool x4v5) w5))))))))
theorem eq3 : ∀ (l : Option Addr) (lN lC : Nat) (x : Int) (x1 : Int) (x2 : Int) (w : World) (Q : Value → World → Prop), vcF PG TB Tryd.f3 (.s .nil (.s .nil (.s .nil (.s .nil (.s (.s .nil (.u (.loop [(6, 3), (7, 3)] .nil))) .nil))))) [(.slice l lN lC), (.agg #[(.int .i64 x), (.int .i64 x1), (.int .i64 x2)])] w Q = N3 l lN lC x x1 x2 w Q := by intros; kernel_rfl
theorem call3 {l : Option Addr} {lN lC : Nat} {x : Int} {x1 : Int} {x2 : Int} {w : World} {Q : Value → World → Prop} (hN : N3 l lN lC x x1 x2 w Q) : CALL PG 3 [(.slice l lN lC), (.agg #[(.int .i64 x), (.int .i64 x1), (.int .i64 x2)])] w Q := calls_vc tabOk Tryd.func3 (by rw [eq3]; exact hN)

/-- brougham/broughamref19.Row -/
def N5 (a : Option Addr) (aN aC : Nat) (b : Option Addr) (bN bC : Nat) (w : World) (Q : Value → World → Prop) : Prop :=
 IFB ((aN : Int) != (bN : Int))
 (Q (.bool false) w)
 (∃ I : Nat → Int → World → Prop,
 (∃ m, I m (0 : Int) w) ∧
 (∀ m1 (i : Int) (w1 : World), I m1 i w1 → (IFB (decide (i < (aN : Int)))
 (IDX a aN i fun a19 =>
 RDI PG (loadVar 3 (Addr.add a19 (Int.toNat i * 1))) .i64 (w1.drew) fun x20 =>
 IDX b bN i fun a23 =>
 RDI PG (loadVar 3 (Addr.add a23 (Int.toNat i * 1))) .i64 (w1.drew) fun x24 =>
 IFB (x20 != x24)
 (Q (.bool false) (w1.drew))
 (LETI (IntKind.i64.wrap (i + (1 : Int))) fun i1 =>
 ∃ m2, m2 < m1 ∧ I m2 i1 (w1.drew)))
 (Q (.bool true) w1))))
theorem eq5 : ∀ (a : Option Addr) (aN aC : Nat) (b : Option Addr) (bN bC : Nat) (w : World) (Q : Value → World → Prop), vcF PG TB Tryd.f5 (.s .nil (.s .nil (.s (.s .nil (.u (.loop [(5, 3)] .nil))) .nil))) [(.slice a aN aC), (.slice b bN bC)] w Q = N5 a aN aC b bN bC w Q := by intros; kernel_rfl
theorem call5 {a : Option Addr} {aN aC : Nat} {b : Option Addr} {bN bC : Nat} {w : World} {Q : Value → World → Prop} (hN : N5 a aN aC b bN bC w Q) : CALL PG 5 [(.slice a aN aC), (.slice b bN bC)] w Q := calls_vc tabOk Tryd.func5 (by rw [eq5]; exact hN)

/-- brougham/report.Draw -/
def N7 (l : Option Addr) (lN lC : Nat) (w : World) (Q : Value → World → Prop) : Prop :=
 ∃ I : Nat → Int → Int → World → Prop,
 (∃ m, I m (0 : Int) (0 : Int) w) ∧
 (∀ m1 (most : Int) (x12 : Int) (w1 : World), I m1 most x12 w1 → (IFB (decide (x12 < (lN : Int)))
 (IDX l lN x12 fun a14 =>
 RDI PG (loadVar 3 (Addr.add a14 (Int.toNat x12 * 1))) .i64 w1 fun x15 =>
 LETI x15 fun n =>
 CALL PG 10 [(.int .i64 n)] w1 fun v w2 =>
 ∃ x18 : Int, v = (.int .i64 x18) ∧
 (LETI (maxN most x18) fun most1 =>
 ∃ m2, m2 < m1 ∧ I m2 most1 (IntKind.i64.wrap (x12 + (1 : Int))) w2))
 (∃ I1 : Nat → ByteArray → Int → World → Prop,
 (∃ m3, I1 m3 (ByteArray.mk #[]) (0 : Int) w1) ∧
 (∀ m4 (out : ByteArray) (x23 : Int) (w3 : World), I1 m4 out x23 w3 → (IFB (decide (x23 < (lN : Int)))
 (IDX l lN x23 fun a25 =>
 RDI PG (loadVar 3 (Addr.add a25 (Int.toNat x23 * 1))) .i64 w3 fun x26 =>
 LETI x26 fun n1 =>
 CALL PG 10 [(.int .i64 n1)] w3 fun v1 w4 =>
 ∃ x28 : Int, v1 = (.int .i64 x28) ∧
 (LETI (maxN x28 (0 : Int)) fun n2 =>
 ∃ R : Int → World → Prop,
 (IFB (decide (most > (0 : Int)))
 (NEED (most ≠ 0)
 (LETI (IntKind.i64.wrap (Int.tdiv (IntKind.i64.wrap (n2 * (40 : Int))) most)) fun k =>
 R k w4))
 (R (0 : Int) w4)) ∧
 (∀ (k1 : Int) (w5 : World), R k1 w5 → (IFB (decide (n2 > (0 : Int)))
 (LETI (maxN k1 (1 : Int)) fun k2 =>
 CALL PG 13 [(.int .i64 n2)] w5 fun v2 w6 =>
 ∃ x42 : ByteArray, v2 = (.string x42) ∧
 (CALL PG 14 [(.string (ByteArray.mk #[42])), (.int .i64 k2)] w6 fun v3 w7 =>
 ∃ x44 : ByteArray, v3 = (.string x44) ∧
 (RUNL PG (Instr.buildSlice 42 2 #[(0, (.string x42)), (1, (.string x44))]) w7 fun x45 x45N x45C w8 =>
 CALL PG 12 [(.slice x45 x45N x45C)] w8 fun v4 w9 =>
 ∃ x46 : ByteArray, v4 = (.string x46) ∧
 (NEED (((x46.size + (ByteArray.mk #[10]).size : Nat) : Int) ≤ IntKind.i64.max)
 (NEED (((out.size + (x46 ++ (ByteArray.mk #[10])).size : Nat) : Int) ≤ IntKind.i64.max)
 (LETS (out ++ (x46 ++ (ByteArray.mk #[10]))) fun out1 =>
 ∃ m5, m5 < m4 ∧ I1 m5 out1 (IntKind.i64.wrap (x23 + (1 : Int))) w9))))))
 (CALL PG 13 [(.int .i64 n2)] w5 fun v5 w10 =>
 ∃ x42v1 : ByteArray, v5 = (.string x42v1) ∧
 (CALL PG 14 [(.string (ByteArray.mk #[42])), (.int .i64 k1)] w10 fun v6 w11 =>
 ∃ x44v1 : ByteArray, v6 = (.string x44v1) ∧
 (RUNL PG (Instr.buildSlice 42 2 #[(0, (.string x42v1)), (1, (.string x44v1))]) w11 fun x45v1 x45N1 x45C1 w12 =>
 CALL PG 12 [(.slice x45v1 x45N1 x45C1)] w12 fun v7 w13 =>
 ∃ x46v1 : ByteArray, v7 = (.string x46v1) ∧
 (NEED (((x46v1.size + (ByteArray.mk #[10]).size : Nat) : Int) ≤ IntKind.i64.max)
 (NEED (((out.size + (x46v1 ++ (ByteArray.mk #[10])).size : Nat) : Int) ≤ IntKind.i64.max)
 (LETS (out ++ (x46v1 ++ (ByteArray.mk #[10]))) fun out2 =>
 ∃ m6, m6 < m4 ∧ I1 m6 out2 (IntKind.i64.wrap (x23 + (1 : Int))) w13))))))))))
 (LETS out fun x2 =>
 Q (.string x2) w3))))))
theorem eq7 : ∀ (l : Option Addr) (lN lC : Nat) (w : World) (Q : Value → World → Prop), vcF PG TB Tryd.f7 (.s .nil (.s .nil (.s (.s .nil (.u (.loop [(3, 3), (12, 3)] .nil))) (.s .nil (.s (.s .nil (.u (.loop [(6, 9), (23, 3)] (.s .nil (.s .nil (.s (.u (.s .nil (.s .nil (.s .nil (.cut [(9, 3)] .nil .nil))))) .nil)))))) .nil))))) [(.slice l lN lC)] w Q = N7 l lN lC w Q := by intros; kernel_rfl
theorem call7 {l : Option Addr} {lN lC : Nat} {w : World} {Q : Value → World → Prop} (hN : N7 l lN lC w Q) : CALL PG 7 [(.slice l lN lC)] w Q := calls_vc tabOk Tryd.func7 (by rw [eq7]; exact hN)

/-- brougham/broughamref37.Draw -/
def N8 (l : Option Addr) (lN lC : Nat) (w : World) (Q : Value → World → Prop) : Prop :=
 ∃ I : Nat → Int → Int → World → Prop,
 (∃ m, I m (0 : Int) (0 : Int) w) ∧
 (∀ m1 (most : Int) (i : Int) (w1 : World), I m1 most i w1 → (IFB (decide (i < (lN : Int)))
 (IDX l lN i fun a17 =>
 RDI PG (loadVar 3 (Addr.add a17 (Int.toNat i * 1))) .i64 w1 fun x18 =>
 CALL PG 11 [(.int .i64 x18)] w1 fun v w2 =>
 ∃ x19 : Int, v = (.int .i64 x19) ∧
 (IFB (decide (x19 > most))
 (IDX l lN i fun a24 =>
 RDI PG (loadVar 3 (Addr.add a24 (Int.toNat i * 1))) .i64 w2 fun x25 =>
 CALL PG 11 [(.int .i64 x25)] w2 fun v1 w3 =>
 ∃ x26 : Int, v1 = (.int .i64 x26) ∧
 (LETI x26 fun most1 =>
 LETI (IntKind.i64.wrap (i + (1 : Int))) fun i1 =>
 ∃ m2, m2 < m1 ∧ I m2 most1 i1 w3))
 (LETI (IntKind.i64.wrap (i + (1 : Int))) fun i2 =>
 ∃ m3, m3 < m1 ∧ I m3 most i2 w2)))
 (∃ I1 : Nat → ByteArray → Int → World → Prop,
 (∃ m4, I1 m4 (ByteArray.mk #[]) (0 : Int) w1) ∧
 (∀ m5 (out : ByteArray) (i3 : Int) (w4 : World), I1 m5 out i3 w4 → (IFB (decide (i3 < (lN : Int)))
 (IDX l lN i3 fun a35 =>
 RDI PG (loadVar 3 (Addr.add a35 (Int.toNat i3 * 1))) .i64 w4 fun x36 =>
 CALL PG 11 [(.int .i64 x36)] w4 fun v2 w5 =>
 ∃ x37 : Int, v2 = (.int .i64 x37) ∧
 (LETI x37 fun n =>
 IFB (decide (n < (1 : Int)))
 (NEED (((out.size + (ByteArray.mk #[48, 10]).size : Nat) : Int) ≤ IntKind.i64.max)
 (LETS (out ++ (ByteArray.mk #[48, 10])) fun out1 =>
 LETI (IntKind.i64.wrap (i3 + (1 : Int))) fun i4 =>
 ∃ m6, m6 < m5 ∧ I1 m6 out1 i4 w5))
 (CALL PG 15 [(.int .i64 n)] w5 fun v3 w6 =>
 ∃ x44 : ByteArray, v3 = (.string x44) ∧
 (NEED (((x44.size + (ByteArray.mk #[32, 42]).size : Nat) : Int) ≤ IntKind.i64.max)
 (NEED (((out.size + (x44 ++ (ByteArray.mk #[32, 42])).size : Nat) : Int) ≤ IntKind.i64.max)
 (LETS (out ++ (x44 ++ (ByteArray.mk #[32, 42]))) fun out2 =>
 ∃ I2 : Nat → ByteArray → Int → World → Prop,
 (∃ m7, I2 m7 out2 (1 : Int) w6) ∧
 (∀ m8 (out3 : ByteArray) (k : Int) (w7 : World), I2 m8 out3 k w7 → (NEED (most ≠ 0)
 (IFB (decide (k < (IntKind.i64.wrap (Int.tdiv (IntKind.i64.wrap (n * (40 : Int))) most))))
 (NEED (((out3.size + (ByteArray.mk #[42]).size : Nat) : Int) ≤ IntKind.i64.max)
 (LETS (out3 ++ (ByteArray.mk #[42])) fun out4 =>
 LETI (IntKind.i64.wrap (k + (1 : Int))) fun k1 =>
 ∃ m9, m9 < m8 ∧ I2 m9 out4 k1 w7))
 (NEED (((out3.size + (ByteArray.mk #[10]).size : Nat) : Int) ≤ IntKind.i64.max)
 (LETS (out3 ++ (ByteArray.mk #[10])) fun out5 =>
 LETI (IntKind.i64.wrap (i3 + (1 : Int))) fun i5 =>
 ∃ m10, m10 < m5 ∧ I1 m10 out5 i5 w7)))))))))))
 (LETS out fun x2 =>
 Q (.string x2) w4))))))
theorem eq8 : ∀ (l : Option Addr) (lN lC : Nat) (w : World) (Q : Value → World → Prop), vcF PG TB Tryd.f8 (.s .nil (.s .nil (.s (.s .nil (.u (.loop [(3, 3), (4, 3)] .nil))) (.s .nil (.s (.s .nil (.u (.loop [(5, 9), (6, 3)] (.s .nil (.s (.u (.s .nil (.s .nil (.s .nil (.s (.s .nil (.u (.loop [(5, 9), (8, 3)] .nil))) .nil))))) .nil))))) .nil))))) [(.slice l lN lC)] w Q = N8 l lN lC w Q := by intros; kernel_rfl
theorem call8 {l : Option Addr} {lN lC : Nat} {w : World} {Q : Value → World → Prop} (hN : N8 l lN lC w Q) : CALL PG 8 [(.slice l lN lC)] w Q := calls_vc tabOk Tryd.func8 (by rw [eq8]; exact hN)

end Go.Br

/- Numbers as rows of signs: what a call does, of the program and of the document; the law. -/
set_option linter.unusedVariables false
set_option linter.unusedSimpArgs false
set_option linter.unnecessarySimpa false
namespace Go.Br
open Go
attribute [local irreducible] Addr.add RD RDS RUN RUNU NILC LETB CALL CALLX CALLV

def mostL (l : List Int) : Int := l.foldl (fun m n => if m < clampI n then clampI n else m) 0
theorem mostL_snoc {l : List Int} {j : Nat} (h : j < l.length) : mostL (l.take (j + 1)) = if mostL (l.take j) < clampI (at0 l j) then clampI (at0 l j) else mostL (l.take j) := by
  have : l.take (j + 1) = l.take j ++ [at0 l j] := by rw [List.take_add_one, at0_get h]; rfl
  rw [this, mostL, List.foldl_append]
  rfl
theorem mostL_ge {l : List Int} : ∀ {j i : Nat}, j ≤ l.length → i < j → clampI (at0 l i) ≤ mostL (l.take j)
  | 0, i, _, h => by omega
  | j + 1, i, hj, h => by
    rw [mostL_snoc (l := l) (j := j) (by omega)]
    by_cases e : i = j
    · subst e; split <;> omega
    · have := mostL_ge (l := l) (j := j) (i := i) (by omega) (by omega)
      split <;> omega
theorem mostL_bd {l : List Int} : ∀ {j : Nat}, j ≤ l.length → 0 ≤ mostL (l.take j) ∧ mostL (l.take j) ≤ 1073741824
  | 0, _ => by simp [mostL]
  | j + 1, hj => by
    have := mostL_bd (l := l) (j := j) (by omega)
    have c := clampI_bd (at0 l j)
    rw [mostL_snoc (l := l) (j := j) (by omega)]
    split <;> omega
/-- As many signs as it has of forty to the greatest one. -/
def starN (most n : Int) : Nat := if Int.tdiv (n * 40) most < 1 then 1 else (Int.tdiv (n * 40) most).toNat
def lineOf (most n : Int) : List UInt8 := if clampI n < 1 then [48, 10] else digsI (clampI n) ++ [32, 42] ++ List.replicate (starN most (clampI n) - 1) 42 ++ [10]
def drawL (most : Int) (l : List Int) : List UInt8 := l.flatMap (lineOf most)
theorem star_bd {most n : Int} (h1 : 1 ≤ n) (h2 : n ≤ most) : 0 ≤ Int.tdiv (n * 40) most ∧ Int.tdiv (n * 40) most ≤ 40 := by
  rw [Int.tdiv_eq_ediv_of_nonneg (by omega)]
  refine ⟨Int.ediv_nonneg (by omega) (by omega), ?_⟩
  have : n * 40 / most ≤ most * 40 / most := Int.ediv_le_ediv (by omega) (by omega)
  rw [Int.mul_comm most 40, Int.mul_ediv_cancel _ (by omega)] at this
  exact this
theorem starN_bd {most n : Int} (h1 : 1 ≤ n) (h2 : n ≤ most) : 1 ≤ starN most n ∧ starN most n ≤ 40 := by
  have := star_bd h1 h2
  unfold starN
  split <;> omega
theorem digs_ne (n : Nat) : digs n ≠ [] := by
  unfold digs
  split <;> simp
theorem lineOf_len {most n : Int} (h2 : clampI n ≤ most) : (lineOf most n).length ≤ 1073741900 := by
  unfold lineOf
  split
  · simp
  · have := starN_bd (most := most) (n := clampI n) (by omega) h2
    have d := digs_len (clampI n).toNat
    have c := clampI_bd n
    simp [digsI]
    omega
theorem drawL_len {most : Int} : ∀ {l : List Int}, (∀ i, i < l.length → clampI (at0 l i) ≤ most) → (drawL most l).length ≤ l.length * 1073741900
  | [], _ => by simp [drawL]
  | x :: l, h => by
    have h0 := lineOf_len (most := most) (n := x) (h 0 (by simp))
    have ih := drawL_len (most := most) (l := l) fun i hi => h (i + 1) (by simpa using hi)
    simp only [drawL, List.flatMap_cons, List.length_append, List.length_cons] at ih ⊢
    omega
theorem drawL_snoc {most : Int} {l : List Int} {j : Nat} (h : j < l.length) : drawL most (l.take (j + 1)) = drawL most (l.take j) ++ lineOf most (at0 l j) := by
  have : l.take (j + 1) = l.take j ++ [at0 l j] := by rw [List.take_add_one, at0_get h]; rfl
  rw [this, drawL, List.flatMap_append]
  simp [drawL]
theorem rep42 (n : Nat) : Lib.repeatL [42] n = List.replicate n 42 := by
  have := Lib.repeatL_replicate 42 1 n
  simpa using this
theorem lineL1 {a : List UInt8} (ha : a ≠ []) : lineL [strOf a, strOf []] = a := by
  unfold lineL joinL
  have e1 : (strOf a).toList = a := strOf_toList a
  have e2 : (strOf ([] : List UInt8)).toList = [] := strOf_toList []
  have f : [strOf a, strOf []].filter (fun s => !(s.toList == [])) = [strOf a] := by
    rw [List.filter_cons, List.filter_cons, e1, e2]
    simp [ha]
  rw [f]
  simp [Lib.join_one]
  simp [strOf]
theorem lineL2 {a b : List UInt8} (ha : a ≠ []) (hb : b ≠ []) : lineL [strOf a, strOf b] = a ++ [32] ++ b := by
  unfold lineL joinL
  have e1 : (strOf a).toList = a := strOf_toList a
  have e2 : (strOf b).toList = b := strOf_toList b
  have f : [strOf a, strOf b].filter (fun s => !(s.toList == [])) = [strOf a, strOf b] := by
    rw [List.filter_cons, List.filter_cons, e1, e2]
    simp [ha, hb]
  rw [f]
  simp [Lib.join_cons, Lib.joinTail]
  simp [strOf]
/-- What the program writes is the line. -/
theorem line_eq {most n : Int} (h2 : clampI n ≤ most) {m : Int} (hm : m = if clampI n < 0 then 0 else clampI n) {k : Nat} (hk : k = if 0 < m then starN most m else 0) : lineL [strOf (digsI m), strOf (Lib.repeatL [42] k)] ++ [10] = lineOf most n := by
  unfold lineOf
  by_cases hn : clampI n < 1
  · rw [if_pos hn]
    have : m = 0 := by rw [hm]; split <;> omega
    subst this
    rw [if_neg (by omega)] at hk
    subst hk
    have d0 : digsI 0 = [48] := by unfold digsI digs; simp
    rw [d0, show Lib.repeatL [42] 0 = [] from rfl, lineL1 (by simp)]
    rfl
  · rw [if_neg hn]
    have : m = clampI n := by rw [hm, if_neg (by omega)]
    subst this
    rw [if_pos (by omega)] at hk
    have := starN_bd (most := most) (n := clampI n) (by omega) h2
    obtain ⟨q, hq⟩ : ∃ q, k = q + 1 := ⟨k - 1, by omega⟩
    rw [← hk, hq, rep42, List.replicate_succ, lineL2 (a := digsI (clampI n)) (b := 42 :: List.replicate q 42) (digs_ne _) (by simp)]
    simp
section
variable {c : Ctx} {w : World} {L R : List SA} {A : Option Addr} {k : Nat}
theorem draw_okR (h : St c w L) {l : List Int} (hr : RdIn L A (l.flatMap iv)) (hl : l.length ≤ 1000) {Q : Value → World → Prop}
    (hk : ∀ w', St c w' L → Q (.string (strOf (drawL (mostL l) l))) w') : CALL PG 7 [.slice A l.length k] w Q := by
  refine call7 ?_
  unfold N7
  refine ⟨fun m mst x w => ∃ j : Nat, x = j ∧ m = l.length - j ∧ j ≤ l.length ∧ mst = mostL (l.take j) ∧ St c w L, ⟨_, 0, rfl, rfl, Nat.zero_le _, rfl, h⟩, ?_⟩
  clear h
  rintro m mst x w' ⟨j, rfl, rfl, hj, rfl, h⟩
  by_cases hjl : j < l.length
  · refine ifdt (by omega) ?_
    have e3 : IntKind.i64.wrap ((j : Int) + 1) = ((j + 1 : Nat) : Int) := by rw [wrap_i64 (by omega) (by omega)]; rfl
    refine h.ix (z := 0) hr (at0_get hjl) (fun a ha => ?_) (by omega)
    have hra := hr
    rw [ha] at hra
    refine h.rdWI hra (at0_get hjl) (leti rfl ?_)
    refine clamp_ok ?_
    (repeat (first | apply Exists.intro (α := Int) | apply Exists.intro (α := Bool) | apply Exists.intro (α := ByteArray) | (apply Exists.intro (α := Option Addr); apply Exists.intro (α := Nat); apply Exists.intro (α := Nat)) | apply Exists.intro (α := Option Addr) | apply Exists.intro (α := Value)))
    refine ⟨rfl, ?_⟩
    exact leti rfl ⟨l.length - (j + 1), by omega, j + 1, e3, rfl, by omega, by rw [mostL_snoc hjl]; rfl, h⟩
  obtain rfl : j = l.length := by omega
  rw [List.take_length]
  refine ifdf (by omega) ?_
  clear hjl
  have hge : ∀ i, i < l.length → clampI (at0 l i) ≤ mostL l := fun i hi => by
    have := mostL_ge (l := l) (j := l.length) (i := i) (Nat.le_refl _) hi
    rwa [List.take_length] at this
  have hbd := mostL_bd (l := l) (j := l.length) (Nat.le_refl _)
  rw [List.take_length] at hbd
  refine ⟨fun m o x w => ∃ j : Nat, x = j ∧ m = l.length - j ∧ j ≤ l.length ∧ o = strOf (drawL (mostL l) (l.take j)) ∧ St c w L, ⟨_, 0, rfl, rfl, Nat.zero_le _, rfl, h⟩, ?_⟩
  clear h
  rintro m o x w' ⟨j, rfl, rfl, hj, rfl, h⟩
  by_cases hjl : j < l.length
  rotate_left
  · obtain rfl : j = l.length := by omega
    rw [List.take_length]
    exact ifdf (by omega) (lets rfl (hk _ h))
  refine ifdt (by omega) ?_
  have e3 : IntKind.i64.wrap ((j : Int) + 1) = ((j + 1 : Nat) : Int) := by rw [wrap_i64 (by omega) (by omega)]; rfl
  have hme := hge j hjl
  have cb := clampI_bd (at0 l j)
  have hlen := drawL_len (most := mostL l) (l := l.take j) fun i hi => by
    rw [List.length_take] at hi
    rw [show at0 (l.take j) i = at0 l i by simp [at0, List.getD_eq_getElem?_getD, List.getElem?_take, show i < j by omega]]
    exact hge i (by omega)
  rw [List.length_take] at hlen
  refine h.ix (z := 0) hr (at0_get hjl) (fun a ha => ?_) (by omega)
  have hra := hr
  rw [ha] at hra
  refine h.rdWI hra (at0_get hjl) (leti rfl ?_)
  refine clamp_ok ?_
  (repeat (first | apply Exists.intro (α := Int) | apply Exists.intro (α := Bool) | apply Exists.intro (α := ByteArray) | (apply Exists.intro (α := Option Addr); apply Exists.intro (α := Nat); apply Exists.intro (α := Nat)) | apply Exists.intro (α := Option Addr) | apply Exists.intro (α := Value)))
  refine ⟨rfl, ?_⟩
  generalize hm : (if clampI (at0 l j) < 0 then (0 : Int) else clampI (at0 l j)) = n2
  refine leti (y := n2) (by rw [← hm]; rfl) ?_
  have hn2 : 0 ≤ n2 ∧ n2 ≤ mostL l ∧ n2 ≤ 1073741824 := by rw [← hm]; split <;> omega
  refine ⟨fun kk w => kk = (if 0 < n2 then Int.tdiv (n2 * 40) (mostL l) else 0) ∧ St c w L, ?_, ?_⟩
  · refine ifd (fun hp => ?_) fun hp => ⟨by rw [if_neg (by omega)], h⟩
    refine ⟨by omega, leti rfl ⟨?_, h⟩⟩
    rw [wrap_i64 (n := n2 * 40) (by omega) (by omega)]
    by_cases h0 : 0 < n2
    · have sb := star_bd (most := mostL l) (n := n2) (by omega) hn2.2.1
      rw [if_pos h0, wrap_i64 (by omega) (by omega)]
    · have : n2 = 0 := by omega
      subst this
      rw [if_neg h0]
      simp
      rfl
  clear h
  rintro _ w' ⟨rfl, h⟩
  have fin : ∀ {w' : World} {q : Nat}, St c w' L → q = (if 0 < n2 then starN (mostL l) n2 else 0) → ∀ {K : ByteArray → World → Prop}, (∀ w'', St c w'' L → K (strOf (drawL (mostL l) (l.take (j + 1)))) w'') →
      CALL PG 14 [.string (ByteArray.mk #[42]), .int .i64 (q : Int)] w' fun v3 w7 =>
      ∃ x44 : ByteArray, v3 = (.string x44) ∧
      (RUNL PG (Instr.buildSlice 42 2 #[(0, (.string (strOf (digsI n2)))), (1, (.string x44))]) w7 fun x45 x45N x45C w8 =>
      CALL PG 12 [(.slice x45 x45N x45C)] w8 fun v4 w9 =>
      ∃ x46 : ByteArray, v4 = (.string x46) ∧
      (NEED (((x46.size + (ByteArray.mk #[10]).size : Nat) : Int) ≤ IntKind.i64.max)
      (NEED ((((strOf (drawL (mostL l) (l.take j))).size + (x46 ++ (ByteArray.mk #[10])).size : Nat) : Int) ≤ IntKind.i64.max)
      (LETS ((strOf (drawL (mostL l) (l.take j))) ++ (x46 ++ (ByteArray.mk #[10]))) fun out1 => K out1 w9)))) := by
    intro w' q h hq K hK
    have hle := line_eq (most := mostL l) (n := at0 l j) hme hm.symm hq
    have hq40 : q ≤ 40 := by
      rw [hq]
      split
      · exact (starN_bd (by omega) hn2.2.1).2
      · omega
    have hll := lineOf_len (most := mostL l) (n := at0 l j) hme
    have hlen2 := congrArg List.length hle
    simp only [List.length_append, List.length_cons, List.length_nil] at hlen2
    refine repeatS_ok h (s := ByteArray.mk #[42]) (n := q) (by omega) (by show 1 * q ≤ _; omega) fun w' h => ?_
    (repeat (first | apply Exists.intro (α := Int) | apply Exists.intro (α := Bool) | apply Exists.intro (α := ByteArray) | (apply Exists.intro (α := Option Addr); apply Exists.intro (α := Nat); apply Exists.intro (α := Nat)) | apply Exists.intro (α := Option Addr) | apply Exists.intro (α := Value)))
    refine ⟨rfl, ?_⟩
    refine h.lit (n := 2) 9 1 (([strOf (digsI n2), strOf (Lib.repeatL [42] q)] : List ByteArray).flatMap sv1) fun q2 w' h => ?_
    refine line_ok (xs := [strOf (digsI n2), strOf (Lib.repeatL [42] q)]) h (RdIn.own .head) (by simp) (by omega) fun w' h => ?_
    (repeat (first | apply Exists.intro (α := Int) | apply Exists.intro (α := Bool) | apply Exists.intro (α := ByteArray) | (apply Exists.intro (α := Option Addr); apply Exists.intro (α := Nat); apply Exists.intro (α := Nat)) | apply Exists.intro (α := Option Addr) | apply Exists.intro (α := Value)))
    refine ⟨rfl, ?_⟩
    have e10 : (ByteArray.mk #[10]) = strOf [10] := rfl
    rw [e10, strOf_append, strOf_append, hle, ← drawL_snoc hjl]
    simp only [strOf_size]
    have mx : IntKind.i64.max = 9223372036854775807 := by decide
    rw [mx]
    refine ⟨by simp only [List.length_cons, List.length_nil]; omega, by omega, lets rfl (hK _ h.drop)⟩
  refine ifd (fun hp => ?_) fun hp => ?_
  · have sb := star_bd (most := mostL l) (n := n2) (by omega) hn2.2.1
    refine leti (y := ((starN (mostL l) n2 : Nat) : Int)) ?_ ?_
    · rw [if_pos (by omega)]
      unfold starN maxN
      split <;> (try split) <;> omega
    refine text_ok h (by omega) fun w' h => ?_
    (repeat (first | apply Exists.intro (α := Int) | apply Exists.intro (α := Bool) | apply Exists.intro (α := ByteArray) | (apply Exists.intro (α := Option Addr); apply Exists.intro (α := Nat); apply Exists.intro (α := Nat)) | apply Exists.intro (α := Option Addr) | apply Exists.intro (α := Value)))
    refine ⟨rfl, ?_⟩
    refine fin h (by rw [if_pos (by omega)]) fun w' h => ?_
    exact ⟨l.length - (j + 1), by omega, j + 1, e3, rfl, by omega, rfl, h⟩
  · rw [if_neg (by omega)]
    refine text_ok h (by omega) fun w' h => ?_
    (repeat (first | apply Exists.intro (α := Int) | apply Exists.intro (α := Bool) | apply Exists.intro (α := ByteArray) | (apply Exists.intro (α := Option Addr); apply Exists.intro (α := Nat); apply Exists.intro (α := Nat)) | apply Exists.intro (α := Option Addr) | apply Exists.intro (α := Value)))
    refine ⟨rfl, ?_⟩
    refine fin (q := 0) h (by rw [if_neg (by omega)]) fun w' h => ?_
    exact ⟨l.length - (j + 1), by omega, j + 1, e3, rfl, by omega, rfl, h⟩
theorem rdraw_okR (h : St c w L) {l : List Int} (hr : RdIn L A (l.flatMap iv)) (hl : l.length ≤ 1000) {Q : Value → World → Prop}
    (hk : ∀ w', St c w' L → Q (.string (strOf (drawL (mostL l) l))) w') : CALL PG 8 [.slice A l.length k] w Q := by
  refine call8 ?_
  unfold N8
  refine ⟨fun m mst x w => ∃ j : Nat, x = j ∧ m = l.length - j ∧ j ≤ l.length ∧ mst = mostL (l.take j) ∧ St c w L, ⟨_, 0, rfl, rfl, Nat.zero_le _, rfl, h⟩, ?_⟩
  clear h
  rintro m mst x w' ⟨j, rfl, rfl, hj, rfl, h⟩
  by_cases hjl : j < l.length
  · refine ifdt (by omega) ?_
    have e3 : IntKind.i64.wrap ((j : Int) + 1) = ((j + 1 : Nat) : Int) := by rw [wrap_i64 (by omega) (by omega)]; rfl
    refine h.ix (z := 0) hr (at0_get hjl) (fun a ha => ?_) (by omega)
    have hra := hr
    rw [ha] at hra
    refine h.rdWI hra (at0_get hjl) ?_
    refine rclamp_ok ?_
    (repeat (first | apply Exists.intro (α := Int) | apply Exists.intro (α := Bool) | apply Exists.intro (α := ByteArray) | (apply Exists.intro (α := Option Addr); apply Exists.intro (α := Nat); apply Exists.intro (α := Nat)) | apply Exists.intro (α := Option Addr) | apply Exists.intro (α := Value)))
    refine ⟨rfl, ?_⟩
    refine ifd (fun hgt => ?_) fun hle => ?_
    · refine h.ix (z := 0) hr (at0_get hjl) (fun b hb => ?_) (by omega)
      have hrb := hr
      rw [hb] at hrb
      refine h.rdWI hrb (at0_get hjl) ?_
      refine rclamp_ok ?_
      (repeat (first | apply Exists.intro (α := Int) | apply Exists.intro (α := Bool) | apply Exists.intro (α := ByteArray) | (apply Exists.intro (α := Option Addr); apply Exists.intro (α := Nat); apply Exists.intro (α := Nat)) | apply Exists.intro (α := Option Addr) | apply Exists.intro (α := Value)))
      refine ⟨rfl, ?_⟩
      exact leti rfl (leti e3 ⟨l.length - (j + 1), by omega, j + 1, rfl, rfl, by omega, by rw [mostL_snoc hjl, if_pos hgt], h⟩)
    · exact leti e3 ⟨l.length - (j + 1), by omega, j + 1, rfl, rfl, by omega, by rw [mostL_snoc hjl, if_neg hle], h⟩
  obtain rfl : j = l.length := by omega
  rw [List.take_length]
  refine ifdf (by omega) ?_
  clear hjl
  have hge : ∀ i, i < l.length → clampI (at0 l i) ≤ mostL l := fun i hi => by
    have := mostL_ge (l := l) (j := l.length) (i := i) (Nat.le_refl _) hi
    rwa [List.take_length] at this
  have hbd := mostL_bd (l := l) (j := l.length) (Nat.le_refl _)
  rw [List.take_length] at hbd
  refine ⟨fun m o x w => ∃ j : Nat, x = j ∧ m = l.length - j ∧ j ≤ l.length ∧ o = strOf (drawL (mostL l) (l.take j)) ∧ St c w L, ⟨_, 0, rfl, rfl, Nat.zero_le _, rfl, h⟩, ?_⟩
  clear h
  rintro m o x w' ⟨j, rfl, rfl, hj, rfl, h⟩
  by_cases hjl : j < l.length
  rotate_left
  · obtain rfl : j = l.length := by omega
    rw [List.take_length]
    exact ifdf (by omega) (lets rfl (hk _ h))
  refine ifdt (by omega) ?_
  have e3 : IntKind.i64.wrap ((j : Int) + 1) = ((j + 1 : Nat) : Int) := by rw [wrap_i64 (by omega) (by omega)]; rfl
  have hme := hge j hjl
  have cb := clampI_bd (at0 l j)
  have hlen := drawL_len (most := mostL l) (l := l.take j) fun i hi => by
    rw [List.length_take] at hi
    rw [show at0 (l.take j) i = at0 l i by simp [at0, List.getD_eq_getElem?_getD, List.getElem?_take, show i < j by omega]]
    exact hge i (by omega)
  rw [List.length_take] at hlen
  have mx : IntKind.i64.max = 9223372036854775807 := by decide
  refine h.ix (z := 0) hr (at0_get hjl) (fun a ha => ?_) (by omega)
  have hra := hr
  rw [ha] at hra
  refine h.rdWI hra (at0_get hjl) ?_
  refine rclamp_ok ?_
  (repeat (first | apply Exists.intro (α := Int) | apply Exists.intro (α := Bool) | apply Exists.intro (α := ByteArray) | (apply Exists.intro (α := Option Addr); apply Exists.intro (α := Nat); apply Exists.intro (α := Nat)) | apply Exists.intro (α := Option Addr) | apply Exists.intro (α := Value)))
  refine ⟨rfl, ?_⟩
  refine leti rfl ?_
  refine ifd (fun hlt => ?_) fun hlt' => ?_
  · have e10 : (ByteArray.mk #[48, 10]) = strOf [48, 10] := rfl
    rw [e10, strOf_append]
    simp only [strOf_size]
    refine ⟨by rw [mx]; simp only [List.length_cons, List.length_nil]; omega, lets rfl (leti e3 ⟨l.length - (j + 1), by omega, j + 1, rfl, rfl, by omega, ?_, h⟩)⟩
    rw [drawL_snoc hjl, show lineOf (mostL l) (at0 l j) = [48, 10] from if_pos hlt]
  have hsb := star_bd (most := mostL l) (n := clampI (at0 l j)) (by omega) hme
  have hst := starN_bd (most := mostL l) (n := clampI (at0 l j)) (by omega) hme
  have hdl := digs_len (clampI (at0 l j)).toNat
  refine rtext_ok h (by omega) fun w' h => ?_
  (repeat (first | apply Exists.intro (α := Int) | apply Exists.intro (α := Bool) | apply Exists.intro (α := ByteArray) | (apply Exists.intro (α := Option Addr); apply Exists.intro (α := Nat); apply Exists.intro (α := Nat)) | apply Exists.intro (α := Option Addr) | apply Exists.intro (α := Value)))
  refine ⟨rfl, ?_⟩
  have e32 : (ByteArray.mk #[32, 42]) = strOf [32, 42] := rfl
  have e42 : (ByteArray.mk #[42]) = strOf [42] := rfl
  have e10 : (ByteArray.mk #[10]) = strOf [10] := rfl
  rw [e32, e42, e10, strOf_append, strOf_append]
  simp only [strOf_size]
  rw [mx]
  refine ⟨by simp only [digsI, List.length_cons, List.length_nil]; omega, by simp only [digsI, List.length_append, List.length_cons, List.length_nil]; omega, lets rfl ?_⟩
  refine ⟨fun m o x w => ∃ q : Nat, x = q ∧ m = starN (mostL l) (clampI (at0 l j)) - q ∧ 1 ≤ q ∧ q ≤ starN (mostL l) (clampI (at0 l j)) ∧ o = strOf (drawL (mostL l) (l.take j) ++ (digsI (clampI (at0 l j)) ++ [32, 42]) ++ List.replicate (q - 1) 42) ∧ St c w L,
    ⟨_, 1, rfl, rfl, Nat.le_refl _, hst.1, by simp, h⟩, ?_⟩
  clear h
  rintro m o x w' ⟨q, rfl, rfl, hq1, hq2, rfl, h⟩
  refine ⟨by omega, ?_⟩
  rw [wrap_i64 (n := clampI (at0 l j) * 40) (by omega) (by omega), wrap_i64 (n := Int.tdiv (clampI (at0 l j) * 40) (mostL l)) (by omega) (by omega)]
  have hsn : (starN (mostL l) (clampI (at0 l j)) : Int) = if Int.tdiv (clampI (at0 l j) * 40) (mostL l) < 1 then 1 else Int.tdiv (clampI (at0 l j) * 40) (mostL l) := by
    unfold starN
    split <;> omega
  rw [strOf_append, strOf_append]
  simp only [strOf_size]
  refine ifd (fun hlt => ?_) fun hlt => ?_
  · refine ⟨by simp only [digsI, List.length_append, List.length_cons, List.length_nil, List.length_replicate]; omega, lets rfl (leti (y := ((q + 1 : Nat) : Int)) (by rw [wrap_i64 (by omega) (by omega)]; rfl) ⟨starN (mostL l) (clampI (at0 l j)) - (q + 1), by split at hsn <;> omega, q + 1, rfl, rfl, by omega, by split at hsn <;> omega, ?_, h⟩)⟩
    congr 1
    obtain ⟨r, rfl⟩ : ∃ r, q = r + 1 := ⟨q - 1, by omega⟩
    simp only [Nat.add_sub_cancel]
    rw [List.append_assoc, ← List.replicate_succ']
  · have hqe : q = starN (mostL l) (clampI (at0 l j)) := by split at hsn <;> omega
    refine ⟨by simp only [digsI, List.length_append, List.length_cons, List.length_nil, List.length_replicate]; omega, lets rfl (leti e3 ⟨l.length - (j + 1), by omega, j + 1, rfl, rfl, by omega, ?_, h⟩)⟩
    rw [drawL_snoc hjl, show lineOf (mostL l) (at0 l j) = _ from if_neg hlt', hqe]
    simp
theorem rowB_ok (h : St c w L) {A2 : Option Go.Addr} {k2 : Nat} {l : List Int} (hr : RdIn L A (l.flatMap iv)) (hr2 : RdIn L A2 (l.flatMap iv)) (hl : l.length ≤ 1000) {Q : Value → World → Prop}
    (hk : ∀ w', St c w' L → Q (.bool true) w') : CALL PG 5 [.slice A l.length k, .slice A2 l.length k2] w Q := by
  refine call5 ?_
  unfold N5
  refine iff_ (by simp) ?_
  refine ⟨fun m i w' => ∃ j : Nat, j + m = l.length ∧ i = (j : Int) ∧ St c w' L, ⟨l.length, 0, by omega, rfl, h⟩, ?_⟩
  clear h
  rintro m _ w' ⟨j, hj, rfl, h⟩
  refine ifd (fun hlt => ?_) fun hge => hk _ h
  have hx := at0_get (D := l) (i := j) (by omega)
  have h := h.drew
  refine h.ix (z := 0) hr hx (fun b hb => ?_) (by omega)
  subst hb
  refine h.rdWI hr hx ?_
  refine h.ix (z := 0) hr2 hx (fun b hb => ?_) (by omega)
  subst hb
  refine h.rdWI hr2 hx ?_
  exact iff_ (by simp) (leti (wrap_i64 (n := (j : Int) + 1) (by omega) (by omega)) ⟨m - 1, by omega, j + 1, by omega, by omega, h⟩)
theorem RdIn.atB {L : List SA} {A : Option Addr} {cs : List Value} {a : Addr} (h : RdIn L A cs) (e : A = some a) : RdIn L (some a) cs := by subst e; exact h
theorem barsL_len {fr width many : Int} {l : List Int} : (barsL fr width many l).length ≤ 64 ∧ (barsL fr width many l = [] ∨ sumI (barsL fr width many l) = l.length ∧ ∀ i, 0 ≤ at0 (barsL fr width many l) i ∧ at0 (barsL fr width many l) i ≤ l.length) := by
  unfold barsL
  split
  · rename_i hb
    have := barsOf_facts (fr := fr) hb (l := l) (j := l.length) (Nat.le_refl _)
    rw [List.take_length] at this
    exact ⟨by have := hb.2.1; omega, .inr this.2⟩
  · exact ⟨by simp, .inl rfl⟩
theorem sumI_take {l : List Int} {j : Nat} (h : j < l.length) : sumI (l.take (j + 1)) = sumI (l.take j) + at0 l j := by
  have : l.take (j + 1) = l.take j ++ [at0 l j] := by rw [List.take_add_one, at0_get h]; rfl
  rw [this, sumI_append]
  simp [sumI]
theorem repbars_ok (h : St c w L) {l : List Int} (hr : RdIn L A (l.flatMap iv)) {fr width many : Int} {Q : Value → World → Prop}
    (hk : ∀ w', St c w' L → Q (.bool true) w') : CALL PG 3 [.slice A l.length k, .agg #[.int .i64 fr, .int .i64 width, .int .i64 many]] w Q := by
  refine call3 ?_
  unfold N3
  refine h.box fun p w' h => ?_
  refine ifd (fun _ => hk _ h.drop) fun hl => ?_
  refine h.rdI (B := p) 0 (h.rdI (B := p) 1 (h.rdI (B := p) 2 ?_))
  refine bars_ok h hr.more (by omega) fun O d w' h => ?_
  (repeat (first | apply Exists.intro (α := Int) | apply Exists.intro (α := Bool) | apply Exists.intro (α := ByteArray) | (apply Exists.intro (α := Option Addr); apply Exists.intro (α := Nat); apply Exists.intro (α := Nat)) | apply Exists.intro (α := Option Addr) | apply Exists.intro (α := Value)))
  refine ⟨rfl, ?_⟩
  generalize hb : barsL fr width many l = b
  rw [hb] at h
  have hfb := barsL_len (fr := fr) (width := width) (many := many) (l := l)
  rw [hb] at hfb
  refine ⟨fun m s x w => ∃ j : Nat, x = j ∧ m = b.length - j ∧ j ≤ b.length ∧ s = sumI (b.take j) ∧ -1000 * (j : Int) ≤ s ∧ s ≤ 1000 * (j : Int) ∧ St c w (own 3 1 O b.length d (b.flatMap iv) :: blk p 24 [.int .i64 fr, .int .i64 width, .int .i64 many] :: L), ⟨_, 0, rfl, rfl, Nat.zero_le _, rfl, by omega, by omega, h⟩, ?_⟩
  clear h
  rintro m s x w' ⟨j, rfl, rfl, hj, rfl, hs1, hs2, h⟩
  have rd : RdIn (own 3 1 O b.length d (b.flatMap iv) :: blk p 24 [.int .i64 fr, .int .i64 width, .int .i64 many] :: L) O (b.flatMap iv) := RdIn.own .head
  by_cases hjl : j < b.length
  · refine ifdt (by omega) ?_
    have e3 : IntKind.i64.wrap ((j : Int) + 1) = ((j + 1 : Nat) : Int) := by rw [wrap_i64 (by omega) (by omega)]; rfl
    have hx : 0 ≤ at0 b j ∧ at0 b j ≤ l.length := by
      rcases hfb.2 with e | e
      · subst e; simp at hjl
      · exact e.2 j
    refine h.ix (z := 0) rd (at0_get hjl) (fun a ha => ?_) (by omega)
    refine h.rdWI (rd.atB ha) (at0_get hjl) ?_
    refine leti (y := sumI (b.take (j + 1))) (by rw [sumI_take hjl, wrap_i64 (by omega) (by omega)]) (leti e3 ⟨b.length - (j + 1), by omega, j + 1, rfl, rfl, by omega, rfl, ?_, ?_, h⟩)
    · rw [sumI_take hjl]; omega
    · rw [sumI_take hjl]; omega
  obtain rfl : j = b.length := by omega
  rw [List.take_length]
  refine ifdf (by omega) ?_
  refine h.rdI (B := p) 0 (h.rdI (B := p) 1 (h.rdI (B := p) 2 ?_))
  refine rbars_ok h hr.more.more (by omega) fun O2 d2 w' h => ?_
  rw [hb] at h ⊢
  (repeat (first | apply Exists.intro (α := Int) | apply Exists.intro (α := Bool) | apply Exists.intro (α := ByteArray) | (apply Exists.intro (α := Option Addr); apply Exists.intro (α := Nat); apply Exists.intro (α := Nat)) | apply Exists.intro (α := Option Addr) | apply Exists.intro (α := Value)))
  refine ⟨rfl, ?_⟩
  refine rowB_ok h (RdIn.own (.tail .head)) (RdIn.own .head) (by omega) fun w' h => ?_
  (repeat (first | apply Exists.intro (α := Int) | apply Exists.intro (α := Bool) | apply Exists.intro (α := ByteArray) | (apply Exists.intro (α := Option Addr); apply Exists.intro (α := Nat); apply Exists.intro (α := Nat)) | apply Exists.intro (α := Option Addr) | apply Exists.intro (α := Value)))
  refine ⟨rfl, ?_⟩
  refine ift rfl ?_
  have fin : ∀ {w' : World}, St c w' (own 3 1 O2 b.length d2 (b.flatMap iv) :: own 3 1 O b.length d (b.flatMap iv) :: blk p 24 [.int .i64 fr, .int .i64 width, .int .i64 many] :: L) →
      CALL PG 7 [(.slice A l.length k)] w' fun v3 w6 =>
      ∃ x54 : ByteArray, v3 = (.string x54) ∧
      (CALL PG 8 [(.slice A l.length k)] w6 fun v4 w7 =>
      ∃ x56 : ByteArray, v4 = (.string x56) ∧
      (IFB (x54.toList == x56.toList)
      (CALL PG 9 [] w7 fun v5 w8 =>
      ∃ x60 : Bool, v5 = (.bool x60) ∧
      (LETB x60 fun x4 =>
      Q (.bool x4) w8))
      (LETB false fun x4v1 =>
      Q (.bool x4v1) w7))) := by
    intro w' h
    refine draw_okR h hr.more.more.more (by omega) fun w' h => ?_
    (repeat (first | apply Exists.intro (α := Int) | apply Exists.intro (α := Bool) | apply Exists.intro (α := ByteArray) | (apply Exists.intro (α := Option Addr); apply Exists.intro (α := Nat); apply Exists.intro (α := Nat)) | apply Exists.intro (α := Option Addr) | apply Exists.intro (α := Value)))
    refine ⟨rfl, ?_⟩
    refine rdraw_okR h hr.more.more.more (by omega) fun w' h => ?_
    (repeat (first | apply Exists.intro (α := Int) | apply Exists.intro (α := Bool) | apply Exists.intro (α := ByteArray) | (apply Exists.intro (α := Option Addr); apply Exists.intro (α := Nat); apply Exists.intro (α := Nat)) | apply Exists.intro (α := Option Addr) | apply Exists.intro (α := Value)))
    refine ⟨rfl, ?_⟩
    refine ift (by simp) ?_
    refine alive37_ok h fun w' h => ?_
    (repeat (first | apply Exists.intro (α := Int) | apply Exists.intro (α := Bool) | apply Exists.intro (α := ByteArray) | (apply Exists.intro (α := Option Addr); apply Exists.intro (α := Nat); apply Exists.intro (α := Nat)) | apply Exists.intro (α := Option Addr) | apply Exists.intro (α := Value)))
    refine ⟨rfl, ?_⟩
    exact letb rfl (hk _ h.drop.drop.drop)
  rcases hfb.2 with e | e
  · exact ift (by rw [e]; rfl) (fin h)
  · refine ifq (fun _ => fin h) fun _ => ifq (fun _ => fin h) fun hne => absurd e.1 hne
end
end Go.Br
