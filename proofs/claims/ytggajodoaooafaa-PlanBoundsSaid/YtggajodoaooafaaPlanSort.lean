/- Paths that are planned with: sorted, as free ones and as used ones. -/
import Derived.Test.YtggajodoaooafaaNPlanSort
import Derived.Test.YtggajodoaooafaaSortPure
import Derived.Test.YtggajodoaooafaaBrSeat
set_option linter.unusedVariables false
set_option linter.unusedSimpArgs false
set_option linter.unnecessarySimpa false
namespace Go.Br
open Go
attribute [local irreducible] Addr.add

structure Pp where
  id : Int
  may : Bool
  used : Bool
  backup : Bool
  bad : Bool
  mean : Int
  tries : Int
def pp (x : Pp) : List Value := [.int .i64 x.id, .bool x.may, .bool x.used, .bool x.backup, .bool x.bad, .int .i64 x.mean, .int .i64 x.tries]
abbrev ppv (x : Pp) : Value := .agg #[.int .i64 x.id, .bool x.may, .bool x.used, .bool x.backup, .bool x.bad, .int .i64 x.mean, .int .i64 x.tries]
theorem pp_length (x : Pp) : (pp x).length = 7 := rfl
theorem pp_flat1 (x : Pp) : Flat (pp x) := by intro v hv; simp [pp] at hv; rcases hv with rfl | rfl | rfl | rfl | rfl | rfl | rfl <;> rfl
theorem pp_flat (L : List Pp) : Flat (L.flatMap pp) := by
  intro v hv
  simp only [List.mem_flatMap] at hv
  obtain ⟨x, _, hx⟩ := hv
  exact pp_flat1 x v hx
section
variable {c : Ctx} {w : World} {R : List SA} {A : Option Addr} {n k : Nat} {cmp : Value}
theorem plswap_ok {P X M Y S : List Pp} (hxy : X.length = Y.length) (hn : (P ++ X ++ M ++ Y ++ S).length = n) (hb : n ≤ 1000000) (h : St c w (own 108 7 A n k ((P ++ X ++ M ++ Y ++ S).flatMap pp) :: R)) {a b m : Int} (ha : a = (P.length : Int)) (hbb : b = ((P.length + X.length + M.length : Nat) : Int)) (hm : m = (X.length : Int)) {Q : Value → World → Prop}
    (hk : ∀ w', St c w' (own 108 7 A n k ((P ++ Y ++ M ++ X ++ S).flatMap pp) :: R) → Q (.tuple #[]) w') : CALL PG 157 [.slice A n k, .int .i64 a, .int .i64 b, .int .i64 m, cmp] w Q := by
  refine call157 ?_
  unfold N157
  subst ha; subst hbb; subst hm
  simp only [List.length_append] at hn
  refine ⟨fun m i w' => ∃ j : Nat, j + m = X.length ∧ i = (j : Int) ∧ St c w' (own 108 7 A n k ((P ++ (Y.take j ++ X.drop j) ++ M ++ (X.take j ++ Y.drop j) ++ S).flatMap pp) :: R), ⟨X.length, 0, by omega, rfl, by simpa using h⟩, ?_⟩
  rintro m _ w' ⟨j, hj, rfl, h⟩
  refine ifd (fun hlt => ?_) fun hge => ?_
  rotate_left
  · have : j = X.length := by omega
    subst this
    refine hk w' ?_
    have e1 : X.drop X.length = [] := List.drop_eq_nil_of_le (Nat.le_refl _)
    have e2 : Y.drop X.length = [] := List.drop_eq_nil_of_le (by omega)
    have e3 : Y.take X.length = Y := List.take_of_length_le (by omega)
    have e4 : X.take X.length = X := List.take_of_length_le (Nat.le_refl _)
    rw [e1, e2, e3, e4] at h
    simpa using h
  obtain ⟨x, hx⟩ := ex_get (L := X) (j := j) (by omega)
  obtain ⟨y, hy⟩ := ex_get (L := Y) (j := j) (by omega)
  obtain ⟨g1, g2, g3, g4, g5⟩ := swap_step (P := P) (M := M) (S := S) hx hy hxy
  have eb : IntKind.i64.wrap (((P.length + X.length + M.length : Nat) : Int) + (j : Int)) = ((P.length + X.length + M.length + j : Nat) : Int) := by rw [wrap_i64 (by omega) (by omega)]; omega
  have ea : IntKind.i64.wrap ((P.length : Int) + (j : Int)) = ((P.length + j : Nat) : Int) := by rw [wrap_i64 (by omega) (by omega)]; omega
  rw [eb, ea]
  have h := h.drew
  refine h.ix (z := 6) (RdIn.own .head) g2 (fun a ha => ?_) (by omega)
  subst ha
  refine h.rdEG (RdIn.own .head) g2 ?_
  first | refine ⟨_, rfl, ?_⟩ | refine ⟨_, _, rfl, ?_⟩ | refine ⟨_, _, _, rfl, ?_⟩ | refine ⟨_, _, _, _, rfl, ?_⟩ | refine ⟨_, _, _, _, _, rfl, ?_⟩ | refine ⟨_, _, _, _, _, _, rfl, ?_⟩ | refine ⟨_, _, _, _, _, _, _, rfl, ?_⟩ | refine ⟨_, _, _, _, _, _, _, _, rfl, ?_⟩ | refine ⟨_, _, _, _, _, _, _, _, _, rfl, ?_⟩ | refine ⟨_, _, _, _, _, _, _, _, _, _, rfl, ?_⟩ | refine ⟨_, _, _, _, _, _, _, _, _, _, _, rfl, ?_⟩ | refine ⟨_, _, _, _, _, _, _, _, _, _, _, _, rfl, ?_⟩ | refine ⟨_, _, _, _, _, _, _, _, _, _, _, _, _, rfl, ?_⟩ | refine ⟨_, _, _, _, _, _, _, _, _, _, _, _, _, _, rfl, ?_⟩ | refine ⟨_, _, _, _, _, _, _, _, _, _, _, _, _, _, _, rfl, ?_⟩ | refine ⟨_, _, _, _, _, _, _, _, _, _, _, _, _, _, _, _, rfl, ?_⟩
  refine h.ix (z := 6) (RdIn.own .head) g1 (fun a ha => ?_) (by omega)
  injection ha with ha
  subst ha
  refine h.rdEG (RdIn.own .head) g1 ?_
  first | refine ⟨_, rfl, ?_⟩ | refine ⟨_, _, rfl, ?_⟩ | refine ⟨_, _, _, rfl, ?_⟩ | refine ⟨_, _, _, _, rfl, ?_⟩ | refine ⟨_, _, _, _, _, rfl, ?_⟩ | refine ⟨_, _, _, _, _, _, rfl, ?_⟩ | refine ⟨_, _, _, _, _, _, _, rfl, ?_⟩ | refine ⟨_, _, _, _, _, _, _, _, rfl, ?_⟩ | refine ⟨_, _, _, _, _, _, _, _, _, rfl, ?_⟩ | refine ⟨_, _, _, _, _, _, _, _, _, _, rfl, ?_⟩ | refine ⟨_, _, _, _, _, _, _, _, _, _, _, rfl, ?_⟩ | refine ⟨_, _, _, _, _, _, _, _, _, _, _, _, rfl, ?_⟩ | refine ⟨_, _, _, _, _, _, _, _, _, _, _, _, _, rfl, ?_⟩ | refine ⟨_, _, _, _, _, _, _, _, _, _, _, _, _, _, rfl, ?_⟩ | refine ⟨_, _, _, _, _, _, _, _, _, _, _, _, _, _, _, rfl, ?_⟩ | refine ⟨_, _, _, _, _, _, _, _, _, _, _, _, _, _, _, _, rfl, ?_⟩
  refine h.ix (z := 6) (RdIn.own .head) g1 (fun a ha => ?_) (by omega)
  injection ha with ha
  subst ha
  refine h.stE .head g3 y (pp_flat1 y) fun w' h => ?_
  have g6 : ((P ++ (Y.take j ++ X.drop j) ++ M ++ (X.take j ++ Y.drop j) ++ S).set (P.length + j) y)[P.length + X.length + M.length + j]? = some y := by
    rw [List.getElem?_set_ne (by omega)]; exact g2
  refine h.ix (z := 6) (RdIn.own .head) g6 (fun a ha => ?_) (by omega)
  injection ha with ha
  subst ha
  refine h.stE .head (by rw [List.length_set]; exact g4) x (pp_flat1 x) fun w' h => ?_
  rw [g5] at h
  exact leti (y := ((j + 1 : Nat) : Int)) (wrap_i64 (by omega) (by omega)) ⟨m - 1, by omega, j + 1, by omega, rfl, h⟩
theorem plrot_ok {P X Y S : List Pp} (hX : X ≠ []) (hY : Y ≠ []) (hn : (P ++ X ++ Y ++ S).length = n) (hb : n ≤ 1000000) (h : St c w (own 108 7 A n k ((P ++ X ++ Y ++ S).flatMap pp) :: R)) {a m b : Int} (ha : a = (P.length : Int)) (hm : m = ((P.length + X.length : Nat) : Int)) (hbb : b = ((P.length + X.length + Y.length : Nat) : Int)) {Q : Value → World → Prop}
    (hk : ∀ w', St c w' (own 108 7 A n k ((P ++ Y ++ X ++ S).flatMap pp) :: R) → Q (.tuple #[]) w') : CALL PG 156 [.slice A n k, .int .i64 a, .int .i64 m, .int .i64 b, cmp] w Q := by
  refine call156 ?_
  unfold N156
  subst ha; subst hm; subst hbb
  simp only [List.length_append] at hn
  have x0 := List.length_pos_iff.2 hX
  have y0 := List.length_pos_iff.2 hY
  refine leti (y := (X.length : Int)) (by rw [wrap_i64 (by omega) (by omega)]; omega) (leti (y := (Y.length : Int)) (by rw [wrap_i64 (by omega) (by omega)]; omega) ?_)
  refine ⟨fun m i j w' => ∃ (P' X' Y' S' : List Pp), m = X'.length + Y'.length ∧ i = (X'.length : Int) ∧ j = (Y'.length : Int) ∧ 0 < X'.length ∧ 0 < Y'.length ∧ P'.length + X'.length = P.length + X.length ∧ P' ++ Y' ++ X' ++ S' = P ++ Y ++ X ++ S ∧ (P' ++ X' ++ Y' ++ S').length = n ∧
    St c w' (own 108 7 A n k ((P' ++ X' ++ Y' ++ S').flatMap pp) :: R), ⟨_, P, X, Y, S, rfl, rfl, rfl, x0, y0, rfl, rfl, by simp only [List.length_append]; omega, h⟩, ?_⟩
  rintro m i j w' ⟨P', X', Y', S', rfl, rfl, rfl, hx', hy', hp, he, hn', h⟩
  have hn2 := hn'
  simp only [List.length_append] at hn2
  have em : IntKind.i64.wrap (((P.length + X.length : Nat) : Int) - (X'.length : Int)) = (P'.length : Int) := by rw [wrap_i64 (by omega) (by omega)]; omega
  rw [em]
  refine ifn (fun hne => ifd (fun hlt => ?_) fun hge => ?_) fun heq => ?_
  · obtain ⟨L1, L2, rfl, hl1⟩ : ∃ L1 L2, X' = L1 ++ L2 ∧ L1.length = Y'.length := ⟨X'.take Y'.length, X'.drop Y'.length, (List.take_append_drop _ _).symm, by rw [List.length_take]; omega⟩
    simp only [List.length_append] at *
    have h1 : St c w' (own 108 7 A n k ((P' ++ L1 ++ L2 ++ Y' ++ S').flatMap pp) :: R) := by simpa [List.append_assoc] using h
    refine plswap_ok hl1 (by simp only [List.length_append]; omega) hb h1 rfl (by omega) (by omega) fun w' h => ⟨rfl, ?_⟩
    refine leti (y := (L2.length : Int)) (by rw [wrap_i64 (by omega) (by omega)]; omega) ⟨_, ?_, P' ++ Y', L2, L1, S', rfl, rfl, by omega, by omega, by omega, by simp only [List.length_append]; omega, ?_, by simp only [List.length_append]; omega, ?_⟩
    · omega
    · rw [← he]; simp [List.append_assoc]
    · simpa [List.append_assoc] using h
  · obtain ⟨R1, R2, rfl, hr2⟩ : ∃ R1 R2, Y' = R1 ++ R2 ∧ R2.length = X'.length := ⟨Y'.take (Y'.length - X'.length), Y'.drop (Y'.length - X'.length), (List.take_append_drop _ _).symm, by rw [List.length_drop]; omega⟩
    simp only [List.length_append] at *
    have h1 : St c w' (own 108 7 A n k ((P' ++ X' ++ R1 ++ R2 ++ S').flatMap pp) :: R) := by simpa [List.append_assoc] using h
    refine plswap_ok hr2.symm (by simp only [List.length_append]; omega) hb h1 rfl (by rw [wrap_i64 (n := ((P.length + X.length : Nat) : Int) + ((R1.length + R2.length : Nat) : Int)) (by omega) (by omega), wrap_i64 (by omega) (by omega)]; omega) rfl fun w' h => ⟨rfl, ?_⟩
    refine leti (y := (R1.length : Int)) (by rw [wrap_i64 (by omega) (by omega)]; omega) ⟨_, ?_, P', R2, R1, X' ++ S', rfl, by omega, rfl, by omega, by omega, by omega, ?_, by simp only [List.length_append]; omega, ?_⟩
    · omega
    · rw [← he]; simp [List.append_assoc]
    · simpa [List.append_assoc] using h
  · have hxy : X'.length = Y'.length := by omega
    have h1 : St c w' (own 108 7 A n k ((P' ++ X' ++ [] ++ Y' ++ S').flatMap pp) :: R) := by simpa [List.append_assoc] using h
    refine plswap_ok hxy (by simp only [List.length_append, List.length_nil]; omega) hb h1 rfl (by simp only [List.length_nil]; omega) rfl fun w' h => ⟨rfl, hk w' ?_⟩
    rw [← he]
    simpa [List.append_assoc] using h
/-- What the comparison says, whatever stands in the slice. -/
def plCmp (c : Ctx) (R : List SA) (A : Option Addr) (n k : Nat) (V : Pp → Prop) (f : Pp → Pp → Int) (cmp : Value) : Prop :=
  ∀ (D : List Pp) (w : World) (x y : Pp) (Q : Value → World → Prop), V x → V y → D.length = n → St c w (own 108 7 A n k (D.flatMap pp) :: R) → (∀ w', St c w' (own 108 7 A n k (D.flatMap pp) :: R) → Q (.int .i64 (f x y)) w') → CALLV PG cmp [ppv x, ppv y] w Q
variable {V : Pp → Prop} {f : Pp → Pp → Int}
theorem plinsr_ok (o : Ord Pp f) (hc : plCmp c R A n k V f cmp) {P X S : List Pp} (hX : X ≠ []) (hn : (P ++ X ++ S).length = n) (hb : n ≤ 1000000) (hV : ∀ x ∈ X, V x) (h : St c w (own 108 7 A n k ((P ++ X ++ S).flatMap pp) :: R)) {a b : Int} (ha : a = (P.length : Int)) (hbb : b = ((P.length + X.length : Nat) : Int)) {Q : Value → World → Prop}
    (hk : ∀ w' C, Srt f C → C.Perm X → St c w' (own 108 7 A n k ((P ++ C ++ S).flatMap pp) :: R) → Q (.tuple #[]) w') : CALL PG 150 [.slice A n k, .int .i64 a, .int .i64 b, cmp] w Q := by
  refine call150 ?_
  unfold N150
  subst ha; subst hbb
  simp only [List.length_append] at hn
  have x0 := List.length_pos_iff.2 hX
  refine leti (y := ((P.length + 1 : Nat) : Int)) (by rw [wrap_i64 (by omega) (by omega)]; omega) ?_
  refine ⟨fun m i w' => ∃ (j : Nat) (U : List Pp), j + m = X.length ∧ i = ((P.length + j : Nat) : Int) ∧ U.length = j ∧ Srt f U ∧ U.Perm (X.take j) ∧ St c w' (own 108 7 A n k ((P ++ (U ++ X.drop j) ++ S).flatMap pp) :: R),
    ⟨X.length - 1, 1, X.take 1, by omega, rfl, by rw [List.length_take]; omega, by cases X with | nil => exact absurd rfl hX | cons x r => exact List.pairwise_singleton _ _, .refl _, by rw [List.take_append_drop]; exact h⟩, ?_⟩
  rintro m _ w' ⟨j, U, hj, rfl, hU, hs, hp, h⟩
  refine ifd (fun hlt => leti rfl ?_) fun hge => ?_
  rotate_left
  · have e : j = X.length := by omega
    rw [e, List.take_length] at hp
    rw [e, List.drop_eq_nil_of_le (Nat.le_refl _), List.append_nil] at h
    exact hk w' U hs hp h
  obtain ⟨z, hz⟩ := ex_get (L := X) (j := j) (by omega)
  have hVU : ∀ u ∈ U, V u := fun u hu => hV u (List.mem_of_mem_take (hp.mem_iff.1 hu))
  have hVz := hV z (List.mem_of_getElem? hz)
  have ed := drop_cons' hz
  have next : IntKind.i64.wrap (((P.length + j : Nat) : Int) + 1) = ((P.length + (j + 1) : Nat) : Int) := by rw [wrap_i64 (by omega) (by omega)]; omega
  refine ⟨fun m2 i w' => ∃ (U1 U2 : List Pp), m2 = U1.length ∧ i = ((P.length + U1.length : Nat) : Int) ∧ U = U1 ++ U2 ∧ (∀ y, U2.head? = some y → Le f z y) ∧ St c w' (own 108 7 A n k ((P ++ (U1 ++ z :: U2 ++ X.drop (j + 1)) ++ S).flatMap pp) :: R),
    ⟨_, U, [], rfl, by rw [hU], by simp, by simp, by rw [ed] at h; simpa [List.append_assoc] using h⟩, ?_⟩
  rintro m2 _ w' ⟨U1, U2, rfl, rfl, hU12, hz2, h⟩
  have hjl : U1.length + U2.length = j := by rw [← hU, hU12, List.length_append]
  have lD : (X.drop (j + 1)).length = X.length - (j + 1) := by simp
  have done : ∀ w', St c w' (own 108 7 A n k ((P ++ (U1 ++ z :: U2 ++ X.drop (j + 1)) ++ S).flatMap pp) :: R) → (∀ x, U1.getLast? = some x → Le f x z) → ∃ m5, m5 < m ∧ ∃ (j' : Nat) (U : List Pp), j' + m5 = X.length ∧ ((P.length + (j + 1) : Nat) : Int) = ((P.length + j' : Nat) : Int) ∧ U.length = j' ∧ Srt f U ∧ U.Perm (X.take j') ∧ St c w' (own 108 7 A n k ((P ++ (U ++ X.drop j') ++ S).flatMap pp) :: R) := by
    intro w' h h1
    refine ⟨m - 1, by omega, j + 1, U1 ++ z :: U2, by omega, rfl, by simp <;> omega, Srt.ins o (by rw [← hU12]; exact hs) h1 hz2, ?_, h⟩
    rw [take_snoc' hz]
    refine List.Perm.trans ?_ (List.Perm.append_right [z] hp)
    rw [hU12]
    have : (U1 ++ z :: U2).Perm (z :: (U1 ++ U2)) := List.perm_middle
    exact this.trans (List.perm_append_singleton z (U1 ++ U2)).symm
  refine ifd (fun hlt2 => ?_) fun hge2 => ?_
  rotate_left
  · have : U1 = [] := List.eq_nil_of_length_eq_zero (by omega)
    subst this
    exact leti next (done _ h.drew (by simp))
  rcases List.eq_nil_or_concat U1 with rfl | ⟨q, u, rfl⟩
  · simp at hlt2
  rw [List.concat_eq_append] at *
  have hVu : V u := hVU u (by rw [hU12]; simp)
  have h := h.drew
  have e0 : P ++ (q ++ [u] ++ z :: U2 ++ X.drop (j + 1)) ++ S = (P ++ q) ++ u :: [] ++ z :: (U2 ++ X.drop (j + 1) ++ S) := by simp [List.append_assoc]
  have lq : (q ++ [u]).length = q.length + 1 := by simp
  rw [lq] at hjl hlt2 ⊢
  rw [e0] at h
  have e1 : IntKind.i64.wrap (((P.length + (q.length + 1) : Nat) : Int) - 1) = ((P.length + q.length : Nat) : Int) := by rw [wrap_i64 (by omega) (by omega)]; omega
  rw [e1]
  have lPq : (P ++ q).length = P.length + q.length := by simp
  have gz : ((P ++ q) ++ u :: [] ++ z :: (U2 ++ X.drop (j + 1) ++ S))[P.length + (q.length + 1)]? = some z := by
    rw [List.getElem?_append_right (by simp <;> omega)]
    have : P.length + (q.length + 1) - ((P ++ q) ++ u :: []).length = 0 := by simp <;> omega
    rw [this]; rfl
  have gu : ((P ++ q) ++ u :: [] ++ z :: (U2 ++ X.drop (j + 1) ++ S))[P.length + q.length]? = some u := by
    rw [List.append_assoc, List.getElem?_append_right (by omega)]
    have : P.length + q.length - (P ++ q).length = 0 := by omega
    rw [this]; rfl
  have lT : ((P ++ q) ++ u :: [] ++ z :: (U2 ++ X.drop (j + 1) ++ S)).length = n := by simp <;> omega
  refine h.ix (z := 6) (RdIn.own .head) gz (fun a ha => ?_) (by omega)
  subst ha
  refine h.rdEG (RdIn.own .head) gz ?_
  first | refine ⟨_, rfl, ?_⟩ | refine ⟨_, _, rfl, ?_⟩ | refine ⟨_, _, _, rfl, ?_⟩ | refine ⟨_, _, _, _, rfl, ?_⟩ | refine ⟨_, _, _, _, _, rfl, ?_⟩ | refine ⟨_, _, _, _, _, _, rfl, ?_⟩ | refine ⟨_, _, _, _, _, _, _, rfl, ?_⟩ | refine ⟨_, _, _, _, _, _, _, _, rfl, ?_⟩ | refine ⟨_, _, _, _, _, _, _, _, _, rfl, ?_⟩ | refine ⟨_, _, _, _, _, _, _, _, _, _, rfl, ?_⟩ | refine ⟨_, _, _, _, _, _, _, _, _, _, _, rfl, ?_⟩ | refine ⟨_, _, _, _, _, _, _, _, _, _, _, _, rfl, ?_⟩ | refine ⟨_, _, _, _, _, _, _, _, _, _, _, _, _, rfl, ?_⟩ | refine ⟨_, _, _, _, _, _, _, _, _, _, _, _, _, _, rfl, ?_⟩ | refine ⟨_, _, _, _, _, _, _, _, _, _, _, _, _, _, _, rfl, ?_⟩ | refine ⟨_, _, _, _, _, _, _, _, _, _, _, _, _, _, _, _, rfl, ?_⟩
  refine h.ix (z := 6) (RdIn.own .head) gu (fun a ha => ?_) (by omega)
  injection ha with ha
  subst ha
  refine h.rdEG (RdIn.own .head) gu ?_
  first | refine ⟨_, rfl, ?_⟩ | refine ⟨_, _, rfl, ?_⟩ | refine ⟨_, _, _, rfl, ?_⟩ | refine ⟨_, _, _, _, rfl, ?_⟩ | refine ⟨_, _, _, _, _, rfl, ?_⟩ | refine ⟨_, _, _, _, _, _, rfl, ?_⟩ | refine ⟨_, _, _, _, _, _, _, rfl, ?_⟩ | refine ⟨_, _, _, _, _, _, _, _, rfl, ?_⟩ | refine ⟨_, _, _, _, _, _, _, _, _, rfl, ?_⟩ | refine ⟨_, _, _, _, _, _, _, _, _, _, rfl, ?_⟩ | refine ⟨_, _, _, _, _, _, _, _, _, _, _, rfl, ?_⟩ | refine ⟨_, _, _, _, _, _, _, _, _, _, _, _, rfl, ?_⟩ | refine ⟨_, _, _, _, _, _, _, _, _, _, _, _, _, rfl, ?_⟩ | refine ⟨_, _, _, _, _, _, _, _, _, _, _, _, _, _, rfl, ?_⟩ | refine ⟨_, _, _, _, _, _, _, _, _, _, _, _, _, _, _, rfl, ?_⟩ | refine ⟨_, _, _, _, _, _, _, _, _, _, _, _, _, _, _, _, rfl, ?_⟩
  refine hc _ _ z u _ hVz hVu lT h fun w' h => ⟨_, rfl, ?_⟩
  refine ifd (fun hcm => ?_) fun hcm => ?_
  rotate_left
  · rw [← e0] at h
    exact leti next (done _ h fun x hx => by simp at hx; subst hx; unfold Le; omega)
  have h := h.drew
  refine h.ix (z := 6) (RdIn.own .head) gu (fun a ha => ?_) (by omega)
  injection ha with ha
  subst ha
  refine h.rdEG (RdIn.own .head) gu ?_
  first | refine ⟨_, rfl, ?_⟩ | refine ⟨_, _, rfl, ?_⟩ | refine ⟨_, _, _, rfl, ?_⟩ | refine ⟨_, _, _, _, rfl, ?_⟩ | refine ⟨_, _, _, _, _, rfl, ?_⟩ | refine ⟨_, _, _, _, _, _, rfl, ?_⟩ | refine ⟨_, _, _, _, _, _, _, rfl, ?_⟩ | refine ⟨_, _, _, _, _, _, _, _, rfl, ?_⟩ | refine ⟨_, _, _, _, _, _, _, _, _, rfl, ?_⟩ | refine ⟨_, _, _, _, _, _, _, _, _, _, rfl, ?_⟩ | refine ⟨_, _, _, _, _, _, _, _, _, _, _, rfl, ?_⟩ | refine ⟨_, _, _, _, _, _, _, _, _, _, _, _, rfl, ?_⟩ | refine ⟨_, _, _, _, _, _, _, _, _, _, _, _, _, rfl, ?_⟩ | refine ⟨_, _, _, _, _, _, _, _, _, _, _, _, _, _, rfl, ?_⟩ | refine ⟨_, _, _, _, _, _, _, _, _, _, _, _, _, _, _, rfl, ?_⟩ | refine ⟨_, _, _, _, _, _, _, _, _, _, _, _, _, _, _, _, rfl, ?_⟩
  refine h.ix (z := 6) (RdIn.own .head) gz (fun a ha => ?_) (by omega)
  injection ha with ha
  subst ha
  refine h.rdEG (RdIn.own .head) gz ?_
  first | refine ⟨_, rfl, ?_⟩ | refine ⟨_, _, rfl, ?_⟩ | refine ⟨_, _, _, rfl, ?_⟩ | refine ⟨_, _, _, _, rfl, ?_⟩ | refine ⟨_, _, _, _, _, rfl, ?_⟩ | refine ⟨_, _, _, _, _, _, rfl, ?_⟩ | refine ⟨_, _, _, _, _, _, _, rfl, ?_⟩ | refine ⟨_, _, _, _, _, _, _, _, rfl, ?_⟩ | refine ⟨_, _, _, _, _, _, _, _, _, rfl, ?_⟩ | refine ⟨_, _, _, _, _, _, _, _, _, _, rfl, ?_⟩ | refine ⟨_, _, _, _, _, _, _, _, _, _, _, rfl, ?_⟩ | refine ⟨_, _, _, _, _, _, _, _, _, _, _, _, rfl, ?_⟩ | refine ⟨_, _, _, _, _, _, _, _, _, _, _, _, _, rfl, ?_⟩ | refine ⟨_, _, _, _, _, _, _, _, _, _, _, _, _, _, rfl, ?_⟩ | refine ⟨_, _, _, _, _, _, _, _, _, _, _, _, _, _, _, rfl, ?_⟩ | refine ⟨_, _, _, _, _, _, _, _, _, _, _, _, _, _, _, _, rfl, ?_⟩
  refine h.ix (z := 6) (RdIn.own .head) gz (fun a ha => ?_) (by omega)
  injection ha with ha
  subst ha
  refine h.stE .head (by omega) u (pp_flat1 u) fun w' h => ?_
  have gu' : (((P ++ q) ++ u :: [] ++ z :: (U2 ++ X.drop (j + 1) ++ S)).set (P.length + (q.length + 1)) u)[P.length + q.length]? = some u := by rw [List.getElem?_set_ne (by omega)]; exact gu
  refine h.ix (z := 6) (RdIn.own .head) gu' (fun a ha => ?_) (by omega)
  injection ha with ha
  subst ha
  refine h.stE .head (by rw [List.length_set]; omega) z (pp_flat1 z) fun w' h => ?_
  have sw := swap_at' (P := P ++ q) (M := []) (S := U2 ++ X.drop (j + 1) ++ S) (x := u) (y := z)
  have ei : (P ++ q).length + 1 + ([] : List Pp).length = P.length + (q.length + 1) := by simp <;> omega
  rw [ei, lPq] at sw
  rw [sw] at h
  refine leti rfl ⟨_, ?_, q, u :: U2, rfl, rfl, by rw [hU12]; simp, ?_, ?_⟩
  · omega
  · intro y hy
    simp at hy; subst hy
    exact o.total _ _ hcm
  · have e5 : (P ++ q) ++ z :: [] ++ u :: (U2 ++ X.drop (j + 1) ++ S) = P ++ (q ++ z :: (u :: U2) ++ X.drop (j + 1)) ++ S := by simp [List.append_assoc]
    rw [e5] at h
    exact h
theorem plsym1_ok (o : Ord Pp f) (hc : plCmp c R A n k V f cmp) {P Y S : List Pp} {x : Pp} (hs : Srt f Y) (hn : (P ++ x :: Y ++ S).length = n) (hb : n ≤ 1000000) (hVx : V x) (hVY : ∀ y ∈ Y, V y) (h : St c w (own 108 7 A n k ((P ++ x :: Y ++ S).flatMap pp) :: R)) {Q : Value → World → Prop}
    (hk : ∀ w' C, Srt f C → C.Perm (x :: Y) → St c w' (own 108 7 A n k ((P ++ C ++ S).flatMap pp) :: R) → Q (.tuple #[]) w') : CALL PG 151 [.slice A n k, .int .i64 (P.length : Int), .int .i64 ((P.length + 1 : Nat) : Int), .int .i64 ((P.length + 1 + Y.length : Nat) : Int), cmp] w Q := by
  refine call151 ?_
  unfold N151
  have hn' := hn
  simp only [List.length_append, List.length_cons] at hn
  refine ift (by rw [wrap_i64 (by omega) (by omega)]; simp <;> omega) (leti rfl (leti rfl ?_))
  refine ⟨fun m i j w' => ∃ s r : Nat, s + m = r ∧ i = ((P.length + 1 + s : Nat) : Int) ∧ j = ((P.length + 1 + r : Nat) : Int) ∧ r ≤ Y.length ∧ (∀ y, s ≠ 0 → Y[s - 1]? = some y → Le f y x) ∧ (∀ y, Y[r]? = some y → Le f x y) ∧ St c w' (own 108 7 A n k ((P ++ x :: Y ++ S).flatMap pp) :: R),
    ⟨Y.length, 0, Y.length, by omega, rfl, rfl, Nat.le_refl _, fun y h => absurd rfl h, fun y hy => by simp at hy, h⟩, ?_⟩
  rintro m _ _ w' ⟨s, r, hm, rfl, rfl, hr, h1, h2, h⟩
  refine ifd (fun hlt => ⟨by decide, leti (half_i64 (i := P.length + 1 + s) (j := P.length + 1 + r) (by omega)) ?_⟩) fun hge => leti rfl ?_
  · obtain ⟨t, ht, ht2⟩ : ∃ t, (P.length + 1 + s + (P.length + 1 + r)) / 2 = P.length + 1 + t ∧ s ≤ t ∧ t < r := ⟨(P.length + 1 + s + (P.length + 1 + r)) / 2 - (P.length + 1), by omega, by omega, by omega⟩
    rw [ht]
    obtain ⟨y, hy⟩ := ex_get (L := Y) (j := t) (by omega)
    have gy : (P ++ x :: Y ++ S)[P.length + 1 + t]? = some y := by
      have := at_mid (P := P) (X := x :: Y) (S := S) (i := t + 1) (x := y) (by simpa using hy)
      rwa [show P.length + (t + 1) = P.length + 1 + t by omega] at this
    have gx : (P ++ x :: Y ++ S)[P.length]? = some x := at_mid (P := P) (X := x :: Y) (S := S) (i := 0) (x := x) rfl
    have h := h.drew
    refine h.ix (z := 6) (RdIn.own .head) gy (fun a ha => ?_) (by omega)
    subst ha
    refine h.rdEG (RdIn.own .head) gy ?_
    first | refine ⟨_, rfl, ?_⟩ | refine ⟨_, _, rfl, ?_⟩ | refine ⟨_, _, _, rfl, ?_⟩ | refine ⟨_, _, _, _, rfl, ?_⟩ | refine ⟨_, _, _, _, _, rfl, ?_⟩ | refine ⟨_, _, _, _, _, _, rfl, ?_⟩ | refine ⟨_, _, _, _, _, _, _, rfl, ?_⟩ | refine ⟨_, _, _, _, _, _, _, _, rfl, ?_⟩ | refine ⟨_, _, _, _, _, _, _, _, _, rfl, ?_⟩ | refine ⟨_, _, _, _, _, _, _, _, _, _, rfl, ?_⟩ | refine ⟨_, _, _, _, _, _, _, _, _, _, _, rfl, ?_⟩ | refine ⟨_, _, _, _, _, _, _, _, _, _, _, _, rfl, ?_⟩ | refine ⟨_, _, _, _, _, _, _, _, _, _, _, _, _, rfl, ?_⟩ | refine ⟨_, _, _, _, _, _, _, _, _, _, _, _, _, _, rfl, ?_⟩ | refine ⟨_, _, _, _, _, _, _, _, _, _, _, _, _, _, _, rfl, ?_⟩ | refine ⟨_, _, _, _, _, _, _, _, _, _, _, _, _, _, _, _, rfl, ?_⟩
    refine h.ix (z := 6) (RdIn.own .head) gx (fun a ha => ?_) (by omega)
    injection ha with ha
    subst ha
    refine h.rdEG (RdIn.own .head) gx ?_
    first | refine ⟨_, rfl, ?_⟩ | refine ⟨_, _, rfl, ?_⟩ | refine ⟨_, _, _, rfl, ?_⟩ | refine ⟨_, _, _, _, rfl, ?_⟩ | refine ⟨_, _, _, _, _, rfl, ?_⟩ | refine ⟨_, _, _, _, _, _, rfl, ?_⟩ | refine ⟨_, _, _, _, _, _, _, rfl, ?_⟩ | refine ⟨_, _, _, _, _, _, _, _, rfl, ?_⟩ | refine ⟨_, _, _, _, _, _, _, _, _, rfl, ?_⟩ | refine ⟨_, _, _, _, _, _, _, _, _, _, rfl, ?_⟩ | refine ⟨_, _, _, _, _, _, _, _, _, _, _, rfl, ?_⟩ | refine ⟨_, _, _, _, _, _, _, _, _, _, _, _, rfl, ?_⟩ | refine ⟨_, _, _, _, _, _, _, _, _, _, _, _, _, rfl, ?_⟩ | refine ⟨_, _, _, _, _, _, _, _, _, _, _, _, _, _, rfl, ?_⟩ | refine ⟨_, _, _, _, _, _, _, _, _, _, _, _, _, _, _, rfl, ?_⟩ | refine ⟨_, _, _, _, _, _, _, _, _, _, _, _, _, _, _, _, rfl, ?_⟩
    refine hc _ _ y x _ (hVY y (List.mem_of_getElem? hy)) hVx hn' h fun w' h => ⟨_, rfl, ?_⟩
    refine ifd (fun hcm => ?_) fun hcm => ?_
    · exact leti (y := ((P.length + 1 + (t + 1) : Nat) : Int)) (by rw [wrap_i64 (by omega) (by omega)]; omega) ⟨r - (t + 1), by omega, t + 1, r, by omega, rfl, rfl, hr, fun y' _ hy' => by rw [Nat.add_sub_cancel, hy] at hy'; injection hy' with hy'; subst hy'; exact o.total _ _ hcm, h2, h⟩
    · exact leti rfl ⟨t - s, by omega, s, t, by omega, rfl, rfl, by omega, h1, fun y' hy' => by rw [hy] at hy'; injection hy' with hy'; subst hy'; unfold Le; omega, h⟩
  have hsr : s = r := by omega
  subst hsr
  have hC : Srt f (Y.take s ++ x :: Y.drop s) := by
    refine Srt.ins o (by rw [List.take_append_drop]; exact hs) (fun y hy => ?_) fun y hy => h2 y (by rwa [head_drop] at hy)
    by_cases h0 : s = 0
    · subst h0; simp at hy
    · rw [getLast_take (by omega) hr] at hy; exact h1 y h0 hy
  have pC : (Y.take s ++ x :: Y.drop s).Perm (x :: Y) := by
    have : (Y.take s ++ x :: Y.drop s).Perm (x :: (Y.take s ++ Y.drop s)) := List.perm_middle
    rwa [List.take_append_drop] at this
  refine ⟨fun m i w' => ∃ t : Nat, t + m = s ∧ i = ((P.length + t : Nat) : Int) ∧ St c w' (own 108 7 A n k ((P ++ (Y.take t ++ x :: Y.drop t) ++ S).flatMap pp) :: R), ⟨s, 0, by omega, rfl, by simpa using h⟩, ?_⟩
  rintro m _ w' ⟨t, ht, rfl, h⟩
  have ei : IntKind.i64.wrap (((P.length + 1 + s : Nat) : Int) - 1) = ((P.length + s : Nat) : Int) := by rw [wrap_i64 (by omega) (by omega)]; omega
  rw [ei]
  refine ifd (fun hlt => ?_) fun hge => ?_
  rotate_left
  · have : t = s := by omega
    subst this
    exact hk w' _ hC pC h
  obtain ⟨y, hy⟩ := ex_get (L := Y) (j := t) (by omega)
  have e0 : P ++ (Y.take t ++ x :: Y.drop t) ++ S = (P ++ Y.take t) ++ x :: y :: (Y.drop (t + 1) ++ S) := by rw [drop_cons' hy]; simp [List.append_assoc]
  have lP : (P ++ Y.take t).length = P.length + t := by rw [List.length_append, List.length_take]; omega
  obtain ⟨gx, gy, gl, gs, _⟩ := adj (P := P ++ Y.take t) (S := Y.drop (t + 1) ++ S) (u := x) (v := y) lP
  rw [e0] at h
  have lT : ((P ++ Y.take t) ++ x :: y :: (Y.drop (t + 1) ++ S)).length = n := by rw [← e0]; simp only [List.length_append, List.length_cons, List.length_take, List.length_drop]; omega
  have en : IntKind.i64.wrap (((P.length + t : Nat) : Int) + 1) = ((P.length + t + 1 : Nat) : Int) := by rw [wrap_i64 (by omega) (by omega)]; omega
  rw [en]
  have h := h.drew
  refine h.ix (z := 6) (RdIn.own .head) gy (fun a ha => ?_) (by omega)
  subst ha
  refine h.rdEG (RdIn.own .head) gy ?_
  first | refine ⟨_, rfl, ?_⟩ | refine ⟨_, _, rfl, ?_⟩ | refine ⟨_, _, _, rfl, ?_⟩ | refine ⟨_, _, _, _, rfl, ?_⟩ | refine ⟨_, _, _, _, _, rfl, ?_⟩ | refine ⟨_, _, _, _, _, _, rfl, ?_⟩ | refine ⟨_, _, _, _, _, _, _, rfl, ?_⟩ | refine ⟨_, _, _, _, _, _, _, _, rfl, ?_⟩ | refine ⟨_, _, _, _, _, _, _, _, _, rfl, ?_⟩ | refine ⟨_, _, _, _, _, _, _, _, _, _, rfl, ?_⟩ | refine ⟨_, _, _, _, _, _, _, _, _, _, _, rfl, ?_⟩ | refine ⟨_, _, _, _, _, _, _, _, _, _, _, _, rfl, ?_⟩ | refine ⟨_, _, _, _, _, _, _, _, _, _, _, _, _, rfl, ?_⟩ | refine ⟨_, _, _, _, _, _, _, _, _, _, _, _, _, _, rfl, ?_⟩ | refine ⟨_, _, _, _, _, _, _, _, _, _, _, _, _, _, _, rfl, ?_⟩ | refine ⟨_, _, _, _, _, _, _, _, _, _, _, _, _, _, _, _, rfl, ?_⟩
  refine h.ix (z := 6) (RdIn.own .head) gx (fun a ha => ?_) (by omega)
  injection ha with ha
  subst ha
  refine h.rdEG (RdIn.own .head) gx ?_
  first | refine ⟨_, rfl, ?_⟩ | refine ⟨_, _, rfl, ?_⟩ | refine ⟨_, _, _, rfl, ?_⟩ | refine ⟨_, _, _, _, rfl, ?_⟩ | refine ⟨_, _, _, _, _, rfl, ?_⟩ | refine ⟨_, _, _, _, _, _, rfl, ?_⟩ | refine ⟨_, _, _, _, _, _, _, rfl, ?_⟩ | refine ⟨_, _, _, _, _, _, _, _, rfl, ?_⟩ | refine ⟨_, _, _, _, _, _, _, _, _, rfl, ?_⟩ | refine ⟨_, _, _, _, _, _, _, _, _, _, rfl, ?_⟩ | refine ⟨_, _, _, _, _, _, _, _, _, _, _, rfl, ?_⟩ | refine ⟨_, _, _, _, _, _, _, _, _, _, _, _, rfl, ?_⟩ | refine ⟨_, _, _, _, _, _, _, _, _, _, _, _, _, rfl, ?_⟩ | refine ⟨_, _, _, _, _, _, _, _, _, _, _, _, _, _, rfl, ?_⟩ | refine ⟨_, _, _, _, _, _, _, _, _, _, _, _, _, _, _, rfl, ?_⟩ | refine ⟨_, _, _, _, _, _, _, _, _, _, _, _, _, _, _, _, rfl, ?_⟩
  refine h.ix (z := 6) (RdIn.own .head) gx (fun a ha => ?_) (by omega)
  injection ha with ha
  subst ha
  refine h.stE .head (by omega) y (pp_flat1 y) fun w' h => ?_
  have gy' : (((P ++ Y.take t) ++ x :: y :: (Y.drop (t + 1) ++ S)).set (P.length + t) y)[P.length + t + 1]? = some y := by rw [List.getElem?_set_ne (by omega)]; exact gy
  refine h.ix (z := 6) (RdIn.own .head) gy' (fun a ha => ?_) (by omega)
  injection ha with ha
  subst ha
  refine h.stE .head (by rw [List.length_set]; omega) x (pp_flat1 x) fun w' h => ?_
  rw [gs] at h
  refine leti rfl ⟨m - 1, by omega, t + 1, by omega, rfl, ?_⟩
  rw [take_snoc' hy]
  simpa [List.append_assoc] using h
theorem plsym2_ok (o : Ord Pp f) (hc : plCmp c R A n k V f cmp) {P X S : List Pp} {y : Pp} (hX1 : X.length ≠ 1) (hs : Srt f X) (hn : (P ++ X ++ y :: S).length = n) (hb : n ≤ 1000000) (hVy : V y) (hVX : ∀ x ∈ X, V x) (h : St c w (own 108 7 A n k ((P ++ X ++ y :: S).flatMap pp) :: R)) {Q : Value → World → Prop}
    (hk : ∀ w' C, Srt f C → C.Perm (X ++ [y]) → St c w' (own 108 7 A n k ((P ++ C ++ S).flatMap pp) :: R) → Q (.tuple #[]) w') : CALL PG 151 [.slice A n k, .int .i64 (P.length : Int), .int .i64 ((P.length + X.length : Nat) : Int), .int .i64 ((P.length + X.length + 1 : Nat) : Int), cmp] w Q := by
  refine call151 ?_
  unfold N151
  have hn' := hn
  simp only [List.length_append, List.length_cons] at hn
  refine iff_ (by rw [wrap_i64 (by omega) (by omega)]; simp <;> omega) (ift (by rw [wrap_i64 (by omega) (by omega)]; simp <;> omega) (leti rfl (leti rfl ?_)))
  refine ⟨fun m i j w' => ∃ s r : Nat, s + m = r ∧ i = ((P.length + s : Nat) : Int) ∧ j = ((P.length + r : Nat) : Int) ∧ r ≤ X.length ∧ (∀ x, s ≠ 0 → X[s - 1]? = some x → Le f x y) ∧ (∀ x, X[r]? = some x → Le f y x) ∧ St c w' (own 108 7 A n k ((P ++ X ++ y :: S).flatMap pp) :: R),
    ⟨X.length, 0, X.length, by omega, rfl, rfl, Nat.le_refl _, fun y h => absurd rfl h, fun y hy => by simp at hy, h⟩, ?_⟩
  rintro m _ _ w' ⟨s, r, hm, rfl, rfl, hr, h1, h2, h⟩
  refine ifd (fun hlt => ⟨by decide, leti (half_i64 (i := P.length + s) (j := P.length + r) (by omega)) ?_⟩) fun hge => leti rfl ?_
  · obtain ⟨t, ht, ht2⟩ : ∃ t, (P.length + s + (P.length + r)) / 2 = P.length + t ∧ s ≤ t ∧ t < r := ⟨(P.length + s + (P.length + r)) / 2 - P.length, by omega, by omega, by omega⟩
    rw [ht]
    obtain ⟨x, hx⟩ := ex_get (L := X) (j := t) (by omega)
    have gx : (P ++ X ++ y :: S)[P.length + t]? = some x := at_mid hx
    have gy : (P ++ X ++ y :: S)[P.length + X.length]? = some y := by
      have := at_mid (P := P ++ X) (X := [y]) (S := S) (i := 0) (x := y) rfl
      simpa using this
    have h := h.drew
    refine h.ix (z := 6) (RdIn.own .head) gy (fun a ha => ?_) (by omega)
    subst ha
    refine h.rdEG (RdIn.own .head) gy ?_
    first | refine ⟨_, rfl, ?_⟩ | refine ⟨_, _, rfl, ?_⟩ | refine ⟨_, _, _, rfl, ?_⟩ | refine ⟨_, _, _, _, rfl, ?_⟩ | refine ⟨_, _, _, _, _, rfl, ?_⟩ | refine ⟨_, _, _, _, _, _, rfl, ?_⟩ | refine ⟨_, _, _, _, _, _, _, rfl, ?_⟩ | refine ⟨_, _, _, _, _, _, _, _, rfl, ?_⟩ | refine ⟨_, _, _, _, _, _, _, _, _, rfl, ?_⟩ | refine ⟨_, _, _, _, _, _, _, _, _, _, rfl, ?_⟩ | refine ⟨_, _, _, _, _, _, _, _, _, _, _, rfl, ?_⟩ | refine ⟨_, _, _, _, _, _, _, _, _, _, _, _, rfl, ?_⟩ | refine ⟨_, _, _, _, _, _, _, _, _, _, _, _, _, rfl, ?_⟩ | refine ⟨_, _, _, _, _, _, _, _, _, _, _, _, _, _, rfl, ?_⟩ | refine ⟨_, _, _, _, _, _, _, _, _, _, _, _, _, _, _, rfl, ?_⟩ | refine ⟨_, _, _, _, _, _, _, _, _, _, _, _, _, _, _, _, rfl, ?_⟩
    refine h.ix (z := 6) (RdIn.own .head) gx (fun a ha => ?_) (by omega)
    injection ha with ha
    subst ha
    refine h.rdEG (RdIn.own .head) gx ?_
    first | refine ⟨_, rfl, ?_⟩ | refine ⟨_, _, rfl, ?_⟩ | refine ⟨_, _, _, rfl, ?_⟩ | refine ⟨_, _, _, _, rfl, ?_⟩ | refine ⟨_, _, _, _, _, rfl, ?_⟩ | refine ⟨_, _, _, _, _, _, rfl, ?_⟩ | refine ⟨_, _, _, _, _, _, _, rfl, ?_⟩ | refine ⟨_, _, _, _, _, _, _, _, rfl, ?_⟩ | refine ⟨_, _, _, _, _, _, _, _, _, rfl, ?_⟩ | refine ⟨_, _, _, _, _, _, _, _, _, _, rfl, ?_⟩ | refine ⟨_, _, _, _, _, _, _, _, _, _, _, rfl, ?_⟩ | refine ⟨_, _, _, _, _, _, _, _, _, _, _, _, rfl, ?_⟩ | refine ⟨_, _, _, _, _, _, _, _, _, _, _, _, _, rfl, ?_⟩ | refine ⟨_, _, _, _, _, _, _, _, _, _, _, _, _, _, rfl, ?_⟩ | refine ⟨_, _, _, _, _, _, _, _, _, _, _, _, _, _, _, rfl, ?_⟩ | refine ⟨_, _, _, _, _, _, _, _, _, _, _, _, _, _, _, _, rfl, ?_⟩
    refine hc _ _ y x _ hVy (hVX x (List.mem_of_getElem? hx)) hn' h fun w' h => ⟨_, rfl, ?_⟩
    refine ifnot (fun hcm => ?_) fun hcm => ?_
    · have hcm := of_decide_eq_false hcm
      exact leti (y := ((P.length + (t + 1) : Nat) : Int)) (by rw [wrap_i64 (by omega) (by omega)]; omega) ⟨r - (t + 1), by omega, t + 1, r, by omega, rfl, rfl, hr, fun y' _ hy' => by rw [Nat.add_sub_cancel, hx] at hy'; injection hy' with hy'; subst hy'; unfold Le; omega, h2, h⟩
    · have hcm := of_decide_eq_true hcm
      exact leti rfl ⟨t - s, by omega, s, t, by omega, rfl, rfl, by omega, h1, fun y' hy' => by rw [hx] at hy'; injection hy' with hy'; subst hy'; exact o.total _ _ hcm, h⟩
  have hsr : s = r := by omega
  subst hsr
  have hC : Srt f (X.take s ++ y :: X.drop s) := by
    refine Srt.ins o (by rw [List.take_append_drop]; exact hs) (fun x hx => ?_) fun x hx => h2 x (by rwa [head_drop] at hx)
    by_cases h0 : s = 0
    · subst h0; simp at hx
    · rw [getLast_take (by omega) hr] at hx; exact h1 x h0 hx
  have pC : (X.take s ++ y :: X.drop s).Perm (X ++ [y]) := by
    have : (X.take s ++ y :: X.drop s).Perm (y :: (X.take s ++ X.drop s)) := List.perm_middle
    rw [List.take_append_drop] at this
    exact this.trans (List.perm_append_singleton y X).symm
  refine ⟨fun m i w' => ∃ t : Nat, s + m = t ∧ t ≤ X.length ∧ i = ((P.length + t : Nat) : Int) ∧ St c w' (own 108 7 A n k ((P ++ (X.take t ++ y :: X.drop t) ++ S).flatMap pp) :: R), ⟨X.length - s, X.length, by omega, Nat.le_refl _, rfl, by simpa [List.append_assoc] using h⟩, ?_⟩
  rintro m _ w' ⟨t, ht, htl, rfl, h⟩
  refine ifd (fun hlt => ?_) fun hge => ?_
  rotate_left
  · have : t = s := by omega
    subst this
    exact hk w' _ hC pC h
  obtain ⟨t, rfl⟩ : ∃ t', t = t' + 1 := ⟨t - 1, by omega⟩
  obtain ⟨x, hx⟩ := ex_get (L := X) (j := t) (by omega)
  have e0 : P ++ (X.take (t + 1) ++ y :: X.drop (t + 1)) ++ S = (P ++ X.take t) ++ x :: y :: (X.drop (t + 1) ++ S) := by rw [take_snoc' hx]; simp [List.append_assoc]
  have lP : (P ++ X.take t).length = P.length + t := by rw [List.length_append, List.length_take]; omega
  obtain ⟨gx, gy, gl, _, gs⟩ := adj (P := P ++ X.take t) (S := X.drop (t + 1) ++ S) (u := x) (v := y) lP
  rw [e0] at h
  have lT : ((P ++ X.take t) ++ x :: y :: (X.drop (t + 1) ++ S)).length = n := by rw [← e0]; simp only [List.length_append, List.length_cons, List.length_take, List.length_drop]; omega
  have en : IntKind.i64.wrap (((P.length + (t + 1) : Nat) : Int) - 1) = ((P.length + t : Nat) : Int) := by rw [wrap_i64 (by omega) (by omega)]; omega
  rw [en]
  have en2 : ((P.length + (t + 1) : Nat) : Int) = ((P.length + t + 1 : Nat) : Int) := by omega
  rw [en2]
  have h := h.drew
  refine h.ix (z := 6) (RdIn.own .head) gx (fun a ha => ?_) (by omega)
  subst ha
  refine h.rdEG (RdIn.own .head) gx ?_
  first | refine ⟨_, rfl, ?_⟩ | refine ⟨_, _, rfl, ?_⟩ | refine ⟨_, _, _, rfl, ?_⟩ | refine ⟨_, _, _, _, rfl, ?_⟩ | refine ⟨_, _, _, _, _, rfl, ?_⟩ | refine ⟨_, _, _, _, _, _, rfl, ?_⟩ | refine ⟨_, _, _, _, _, _, _, rfl, ?_⟩ | refine ⟨_, _, _, _, _, _, _, _, rfl, ?_⟩ | refine ⟨_, _, _, _, _, _, _, _, _, rfl, ?_⟩ | refine ⟨_, _, _, _, _, _, _, _, _, _, rfl, ?_⟩ | refine ⟨_, _, _, _, _, _, _, _, _, _, _, rfl, ?_⟩ | refine ⟨_, _, _, _, _, _, _, _, _, _, _, _, rfl, ?_⟩ | refine ⟨_, _, _, _, _, _, _, _, _, _, _, _, _, rfl, ?_⟩ | refine ⟨_, _, _, _, _, _, _, _, _, _, _, _, _, _, rfl, ?_⟩ | refine ⟨_, _, _, _, _, _, _, _, _, _, _, _, _, _, _, rfl, ?_⟩ | refine ⟨_, _, _, _, _, _, _, _, _, _, _, _, _, _, _, _, rfl, ?_⟩
  refine h.ix (z := 6) (RdIn.own .head) gy (fun a ha => ?_) (by omega)
  injection ha with ha
  subst ha
  refine h.rdEG (RdIn.own .head) gy ?_
  first | refine ⟨_, rfl, ?_⟩ | refine ⟨_, _, rfl, ?_⟩ | refine ⟨_, _, _, rfl, ?_⟩ | refine ⟨_, _, _, _, rfl, ?_⟩ | refine ⟨_, _, _, _, _, rfl, ?_⟩ | refine ⟨_, _, _, _, _, _, rfl, ?_⟩ | refine ⟨_, _, _, _, _, _, _, rfl, ?_⟩ | refine ⟨_, _, _, _, _, _, _, _, rfl, ?_⟩ | refine ⟨_, _, _, _, _, _, _, _, _, rfl, ?_⟩ | refine ⟨_, _, _, _, _, _, _, _, _, _, rfl, ?_⟩ | refine ⟨_, _, _, _, _, _, _, _, _, _, _, rfl, ?_⟩ | refine ⟨_, _, _, _, _, _, _, _, _, _, _, _, rfl, ?_⟩ | refine ⟨_, _, _, _, _, _, _, _, _, _, _, _, _, rfl, ?_⟩ | refine ⟨_, _, _, _, _, _, _, _, _, _, _, _, _, _, rfl, ?_⟩ | refine ⟨_, _, _, _, _, _, _, _, _, _, _, _, _, _, _, rfl, ?_⟩ | refine ⟨_, _, _, _, _, _, _, _, _, _, _, _, _, _, _, _, rfl, ?_⟩
  refine h.ix (z := 6) (RdIn.own .head) gy (fun a ha => ?_) (by omega)
  injection ha with ha
  subst ha
  refine h.stE .head (by omega) x (pp_flat1 x) fun w' h => ?_
  have gx' : (((P ++ X.take t) ++ x :: y :: (X.drop (t + 1) ++ S)).set (P.length + t + 1) x)[P.length + t]? = some x := by rw [List.getElem?_set_ne (by omega)]; exact gx
  refine h.ix (z := 6) (RdIn.own .head) gx' (fun a ha => ?_) (by omega)
  injection ha with ha
  subst ha
  refine h.stE .head (by rw [List.length_set]; omega) y (pp_flat1 y) fun w' h => ?_
  rw [gs] at h
  refine leti rfl ⟨m - 1, by omega, t, by omega, by omega, rfl, ?_⟩
  rw [drop_cons' hx]
  simpa [List.append_assoc] using h
theorem plsym_ok (o : Ord Pp f) (hc : plCmp c R A n k V f cmp) (hb : n ≤ 1000000) : ∀ (N : Nat) {P X Y S : List Pp} {w : World}, X.length + Y.length ≤ N → X ≠ [] → Y ≠ [] → Srt f X → Srt f Y → (P ++ X ++ Y ++ S).length = n → (∀ x ∈ X, V x) → (∀ y ∈ Y, V y) → St c w (own 108 7 A n k ((P ++ X ++ Y ++ S).flatMap pp) :: R) → ∀ {a m b : Int}, a = (P.length : Int) → m = ((P.length + X.length : Nat) : Int) → b = ((P.length + X.length + Y.length : Nat) : Int) → ∀ {Q : Value → World → Prop},
    (∀ w' C, Srt f C → C.Perm (X ++ Y) → St c w' (own 108 7 A n k ((P ++ C ++ S).flatMap pp) :: R) → Q (.tuple #[]) w') → CALL PG 151 [.slice A n k, .int .i64 a, .int .i64 m, .int .i64 b, cmp] w Q := by
  intro N
  induction N with
  | zero =>
    intro P X Y S w hN hX hY
    have := List.length_pos_iff.2 hX; omega
  | succ N ih =>
  intro P X Y S w hN hX hY hsX hsY hn hVX hVY h a m b ha hm hbb Q hk
  subst ha; subst hm; subst hbb
  have x0 := List.length_pos_iff.2 hX
  have y0 := List.length_pos_iff.2 hY
  by_cases hx1 : X.length = 1
  · obtain ⟨x, rfl⟩ := List.length_eq_one_iff.1 hx1
    have h1 : St c w (own 108 7 A n k ((P ++ x :: Y ++ S).flatMap pp) :: R) := by simpa [List.append_assoc] using h
    refine plsym1_ok o hc hsY (by simpa [List.append_assoc] using hn) hb (hVX x (by simp)) hVY h1 fun w' C hC pC h => hk w' C hC (by simpa using pC) h
  by_cases hy1 : Y.length = 1
  · obtain ⟨y, rfl⟩ := List.length_eq_one_iff.1 hy1
    have h1 : St c w (own 108 7 A n k ((P ++ X ++ y :: S).flatMap pp) :: R) := by simpa [List.append_assoc] using h
    exact plsym2_ok o hc hx1 hsX (by simpa [List.append_assoc] using hn) hb (hVY y (by simp)) hVX h1 hk
  refine call151 ?_
  unfold N151
  have hn' := hn
  simp only [List.length_append] at hn
  refine iff_ (by rw [wrap_i64 (by omega) (by omega)]; simp <;> omega) (iff_ (by rw [wrap_i64 (by omega) (by omega)]; simp <;> omega) ⟨by decide, leti (half_i64 (i := P.length) (j := P.length + X.length + Y.length) (by omega)) ?_⟩)
  obtain ⟨K, hK⟩ : ∃ K, K = (X.length + Y.length) / 2 := ⟨_, rfl⟩
  have emid : (P.length + (P.length + X.length + Y.length)) / 2 = P.length + K := by omega
  rw [emid]
  refine leti (y := ((P.length + K + (P.length + X.length) : Nat) : Int)) (by rw [wrap_i64 (by omega) (by omega)]; omega) ?_
  refine ⟨fun s r w' => ∃ lo hi : Nat, s = ((P.length + lo : Nat) : Int) ∧ r = ((P.length + hi : Nat) : Int) ∧ ((K < X.length ∧ lo + Y.length = K ∧ hi = K) ∨ (X.length ≤ K ∧ lo = 0 ∧ hi = X.length)) ∧ w' = w, ?_, ?_⟩
  · refine ifd (fun hlt => ?_) fun hge => leti rfl (leti rfl ⟨0, X.length, by omega, by omega, .inr ⟨by omega, rfl, rfl⟩, rfl⟩)
    exact leti (y := ((P.length + (K - Y.length) : Nat) : Int)) (by rw [wrap_i64 (by omega) (by omega)]; omega) (leti rfl ⟨K - Y.length, K, rfl, rfl, .inl ⟨by omega, by omega, rfl⟩, rfl⟩)
  rintro _ _ w' ⟨lo, hi, rfl, rfl, hlh, rfl⟩
  refine leti (y := ((P.length + K + (P.length + X.length) - 1 : Nat) : Int)) (by rw [wrap_i64 (by omega) (by omega)]; omega) ?_
  refine ⟨fun m' s r w' => ∃ i j : Nat, i + m' = j ∧ s = ((P.length + i : Nat) : Int) ∧ r = ((P.length + j : Nat) : Int) ∧ lo ≤ i ∧ j ≤ hi ∧ (i ≠ lo → ∀ x y, X[i - 1]? = some x → Y[K - i]? = some y → Le f x y) ∧ (j ≠ hi → ∀ x y, Y[K - 1 - j]? = some y → X[j]? = some x → Le f y x) ∧ St c w' (own 108 7 A n k ((P ++ X ++ Y ++ S).flatMap pp) :: R),
    ⟨hi - lo, lo, hi, by omega, rfl, rfl, Nat.le_refl _, Nat.le_refl _, fun h => absurd rfl h, fun h => absurd rfl h, h⟩, ?_⟩
  rintro m' _ _ w' ⟨i, j, hij, rfl, rfl, hli, hjh, h1, h2, h⟩
  refine ifd (fun hlt => ⟨by decide, leti (half_i64 (i := P.length + i) (j := P.length + j) (by omega)) ?_⟩) fun hge => ?_
  · obtain ⟨t, ht, ht2⟩ : ∃ t, (P.length + i + (P.length + j)) / 2 = P.length + t ∧ i ≤ t ∧ t < j := ⟨(P.length + i + (P.length + j)) / 2 - P.length, by omega, by omega, by omega⟩
    rw [ht]
    obtain ⟨x, hx⟩ := ex_get (L := X) (j := t) (by omega)
    obtain ⟨y, hy⟩ := ex_get (L := Y) (j := K - 1 - t) (by omega)
    have gx : (P ++ X ++ Y ++ S)[P.length + t]? = some x := by
      have := at_mid (P := P) (X := X) (S := Y ++ S) hx
      simpa [List.append_assoc] using this
    have gy : (P ++ X ++ Y ++ S)[P.length + X.length + (K - 1 - t)]? = some y := by
      have := at_mid (P := P ++ X) (X := Y) (S := S) hy
      rwa [List.length_append] at this
    have ep : IntKind.i64.wrap (((P.length + K + (P.length + X.length) - 1 : Nat) : Int) - ((P.length + t : Nat) : Int)) = ((P.length + X.length + (K - 1 - t) : Nat) : Int) := by rw [wrap_i64 (by omega) (by omega)]; omega
    rw [ep]
    have h := h.drew
    refine h.ix (z := 6) (RdIn.own .head) gy (fun a ha => ?_) (by omega)
    subst ha
    refine h.rdEG (RdIn.own .head) gy ?_
    first | refine ⟨_, rfl, ?_⟩ | refine ⟨_, _, rfl, ?_⟩ | refine ⟨_, _, _, rfl, ?_⟩ | refine ⟨_, _, _, _, rfl, ?_⟩ | refine ⟨_, _, _, _, _, rfl, ?_⟩ | refine ⟨_, _, _, _, _, _, rfl, ?_⟩ | refine ⟨_, _, _, _, _, _, _, rfl, ?_⟩ | refine ⟨_, _, _, _, _, _, _, _, rfl, ?_⟩ | refine ⟨_, _, _, _, _, _, _, _, _, rfl, ?_⟩ | refine ⟨_, _, _, _, _, _, _, _, _, _, rfl, ?_⟩ | refine ⟨_, _, _, _, _, _, _, _, _, _, _, rfl, ?_⟩ | refine ⟨_, _, _, _, _, _, _, _, _, _, _, _, rfl, ?_⟩ | refine ⟨_, _, _, _, _, _, _, _, _, _, _, _, _, rfl, ?_⟩ | refine ⟨_, _, _, _, _, _, _, _, _, _, _, _, _, _, rfl, ?_⟩ | refine ⟨_, _, _, _, _, _, _, _, _, _, _, _, _, _, _, rfl, ?_⟩ | refine ⟨_, _, _, _, _, _, _, _, _, _, _, _, _, _, _, _, rfl, ?_⟩
    refine h.ix (z := 6) (RdIn.own .head) gx (fun a ha => ?_) (by omega)
    injection ha with ha
    subst ha
    refine h.rdEG (RdIn.own .head) gx ?_
    first | refine ⟨_, rfl, ?_⟩ | refine ⟨_, _, rfl, ?_⟩ | refine ⟨_, _, _, rfl, ?_⟩ | refine ⟨_, _, _, _, rfl, ?_⟩ | refine ⟨_, _, _, _, _, rfl, ?_⟩ | refine ⟨_, _, _, _, _, _, rfl, ?_⟩ | refine ⟨_, _, _, _, _, _, _, rfl, ?_⟩ | refine ⟨_, _, _, _, _, _, _, _, rfl, ?_⟩ | refine ⟨_, _, _, _, _, _, _, _, _, rfl, ?_⟩ | refine ⟨_, _, _, _, _, _, _, _, _, _, rfl, ?_⟩ | refine ⟨_, _, _, _, _, _, _, _, _, _, _, rfl, ?_⟩ | refine ⟨_, _, _, _, _, _, _, _, _, _, _, _, rfl, ?_⟩ | refine ⟨_, _, _, _, _, _, _, _, _, _, _, _, _, rfl, ?_⟩ | refine ⟨_, _, _, _, _, _, _, _, _, _, _, _, _, _, rfl, ?_⟩ | refine ⟨_, _, _, _, _, _, _, _, _, _, _, _, _, _, _, rfl, ?_⟩ | refine ⟨_, _, _, _, _, _, _, _, _, _, _, _, _, _, _, _, rfl, ?_⟩
    refine hc _ _ y x _ (hVY y (List.mem_of_getElem? hy)) (hVX x (List.mem_of_getElem? hx)) hn' h fun w' h => ⟨_, rfl, ?_⟩
    refine ifnot (fun hcm => ?_) fun hcm => ?_
    · have hcm := of_decide_eq_false hcm
      refine leti (y := ((P.length + (t + 1) : Nat) : Int)) (by rw [wrap_i64 (by omega) (by omega)]; omega) ⟨j - (t + 1), by omega, t + 1, j, by omega, rfl, rfl, by omega, hjh, fun _ x' y' hx' hy' => ?_, h2, h⟩
      rw [Nat.add_sub_cancel, hx] at hx'
      rw [show K - (t + 1) = K - 1 - t by omega, hy] at hy'
      injection hx' with hx'; injection hy' with hy'
      subst hx'; subst hy'
      unfold Le; omega
    · have hcm := of_decide_eq_true hcm
      refine leti rfl ⟨t - i, by omega, i, t, by omega, rfl, rfl, hli, by omega, h1, fun _ x' y' hy' hx' => ?_, h⟩
      rw [hx] at hx'; rw [hy] at hy'
      injection hx' with hx'; injection hy' with hy'
      subst hx'; subst hy'
      exact o.total _ _ hcm
  have hij2 : i = j := by omega
  subst hij2
  obtain ⟨e, he⟩ : ∃ e, i + e = K := ⟨K - i, by omega⟩
  have heY : e ≤ Y.length := by omega
  have hiX : i ≤ X.length := by omega
  refine leti (y := ((P.length + X.length + e : Nat) : Int)) (by rw [wrap_i64 (by omega) (by omega)]; omega) ?_
  have hpart : ∀ x ∈ X.take i ++ Y.take e, ∀ y ∈ X.drop i ++ Y.drop e, Le f x y := by
    refine parted o (by rw [List.take_append_drop]; exact hsX) (by rw [List.take_append_drop]; exact hsY) (fun x y hx hy => ?_) fun x y hx hy => ?_
    · rw [head_drop] at hy
      by_cases hl : i = lo
      · exfalso
        rcases hlh with ⟨_, q, _⟩ | ⟨_, q, _⟩
        · rw [List.getElem?_eq_none (by omega)] at hy; cases hy
        · have : i = 0 := by omega
          rw [this] at hx; simp at hx
      · rw [getLast_take (by omega) hiX] at hx
        exact h1 hl x y hx (by rw [show K - i = e by omega]; exact hy)
    · rw [head_drop] at hy
      by_cases hl : i = hi
      · exfalso
        rcases hlh with ⟨_, _, q⟩ | ⟨_, _, q⟩
        · have : e = 0 := by omega
          rw [this] at hx; simp at hx
        · rw [List.getElem?_eq_none (by omega)] at hy; cases hy
      · by_cases he0 : e = 0
        · subst he0; simp at hx
        · rw [getLast_take (by omega) heY] at hx
          exact h2 hl y x (by rw [show K - 1 - i = e - 1 by omega]; exact hx) hy
  obtain ⟨X1, X2, hXX, lX1⟩ : ∃ X1 X2, X = X1 ++ X2 ∧ X1.length = i := ⟨X.take i, X.drop i, (List.take_append_drop _ _).symm, by rw [List.length_take]; omega⟩
  obtain ⟨Y1, Y2, hYY, lY1⟩ : ∃ Y1 Y2, Y = Y1 ++ Y2 ∧ Y1.length = e := ⟨Y.take e, Y.drop e, (List.take_append_drop _ _).symm, by rw [List.length_take]; omega⟩
  have t1 : X.take i = X1 := by rw [hXX, ← lX1, List.take_left]
  have t2 : X.drop i = X2 := by rw [hXX, ← lX1, List.drop_left]
  have t3 : Y.take e = Y1 := by rw [hYY, ← lY1, List.take_left]
  have t4 : Y.drop e = Y2 := by rw [hYY, ← lY1, List.drop_left]
  rw [t1, t2, t3, t4] at hpart
  clear t1 t2 t3 t4 h1 h2
  subst hXX; subst hYY
  simp only [List.length_append] at hn hN hx1 hy1 hK x0 y0 hiX heY hlh ⊢
  rw [Srt.app] at hsX hsY
  have hV1 : ∀ x ∈ X1, V x := fun x hx => hVX x (by simp [hx])
  have hV2 : ∀ x ∈ X2, V x := fun x hx => hVX x (by simp [hx])
  have hV3 : ∀ x ∈ Y1, V x := fun x hx => hVY x (by simp [hx])
  have hV4 : ∀ x ∈ Y2, V x := fun x hx => hVY x (by simp [hx])
  refine ⟨fun w' => St c w' (own 108 7 A n k ((P ++ (X1 ++ Y1) ++ (X2 ++ Y2) ++ S).flatMap pp) :: R), ?_, ?_⟩
  · refine ifd (fun q1 => ifd (fun q2 => ?_) fun q2 => ?_) fun q1 => ?_
    · have h1 : St c w' (own 108 7 A n k ((P ++ X1 ++ X2 ++ Y1 ++ (Y2 ++ S)).flatMap pp) :: R) := by simpa [List.append_assoc] using h
      refine plrot_ok (by intro e0; subst e0; simp only [List.length_nil] at *; omega) (by intro e0; subst e0; simp only [List.length_nil] at *; omega) (by simp only [List.length_append]; omega) hb h1 (by simp only [List.length_append]; omega) (by simp only [List.length_append]; omega) (by simp only [List.length_append]; omega) fun w' h => ⟨rfl, ?_⟩
      simpa [List.append_assoc] using h
    · have : Y1 = [] := List.eq_nil_of_length_eq_zero (by omega)
      subst this
      simpa [List.append_assoc] using h
    · have : X2 = [] := List.eq_nil_of_length_eq_zero (by omega)
      subst this
      simpa [List.append_assoc] using h
  rintro w' h
  refine ⟨fun w' => ∃ C1, Srt f C1 ∧ C1.Perm (X1 ++ Y1) ∧ St c w' (own 108 7 A n k ((P ++ C1 ++ (X2 ++ Y2) ++ S).flatMap pp) :: R), ?_, ?_⟩
  · refine ifd (fun q1 => ifd (fun q2 => ?_) fun q2 => ?_) fun q1 => ?_
    · have h1 : St c w' (own 108 7 A n k ((P ++ X1 ++ Y1 ++ (X2 ++ Y2 ++ S)).flatMap pp) :: R) := by simpa [List.append_assoc] using h
      refine ih (by omega) (by intro e0; subst e0; simp only [List.length_nil] at *; omega) (by intro e0; subst e0; simp only [List.length_nil] at *; omega) hsX.1 hsY.1 (by simp only [List.length_append]; omega) hV1 hV3 h1 rfl (by omega) (by omega) fun w' C hC pC h => ⟨rfl, C, hC, pC, ?_⟩
      simpa [List.append_assoc] using h
    · have : Y1 = [] := List.eq_nil_of_length_eq_zero (by omega)
      subst this
      exact ⟨X1, hsX.1, by simp, by simpa [List.append_assoc] using h⟩
    · have : X1 = [] := List.eq_nil_of_length_eq_zero (by omega)
      subst this
      exact ⟨Y1, hsY.1, by simp, by simpa [List.append_assoc] using h⟩
  rintro w' ⟨C1, hC1, pC1, h⟩
  have lC1 := pC1.length_eq
  simp only [List.length_append] at lC1
  have fin : ∀ w' C2, Srt f C2 → C2.Perm (X2 ++ Y2) → St c w' (own 108 7 A n k ((P ++ (C1 ++ C2) ++ S).flatMap pp) :: R) → Q (.tuple #[]) w' := by
    intro w' C2 hC2 pC2 h
    refine hk w' _ (Srt.of_perm hC1 hC2 pC1 pC2 hpart) ?_ h
    refine (pC1.append pC2).trans ?_
    simp only [List.append_assoc]
    refine List.Perm.append_left X1 ?_
    rw [← List.append_assoc, ← List.append_assoc]
    exact List.Perm.append_right Y2 List.perm_append_comm
  refine ifd (fun q1 => ifd (fun q2 => ?_) fun q2 => ?_) fun q1 => ?_
  · have h1 : St c w' (own 108 7 A n k (((P ++ C1) ++ X2 ++ Y2 ++ S).flatMap pp) :: R) := by simpa [List.append_assoc] using h
    refine ih (by omega) (by intro e0; subst e0; simp only [List.length_nil] at *; omega) (by intro e0; subst e0; simp only [List.length_nil] at *; omega) hsX.2.1 hsY.2.1 (by simp only [List.length_append]; omega) hV2 hV4 h1 (by simp only [List.length_append]; omega) (by simp only [List.length_append]; omega) (by simp only [List.length_append]; omega) fun w' C hC pC h => ⟨rfl, fin w' C hC pC ?_⟩
    simpa [List.append_assoc] using h
  · have : Y2 = [] := List.eq_nil_of_length_eq_zero (by omega)
    subst this
    exact fin w' X2 hsX.2.1 (by simp) (by simpa [List.append_assoc] using h)
  · have : X2 = [] := List.eq_nil_of_length_eq_zero (by omega)
    subst this
    exact fin w' Y2 hsY.2.1 (by simp) (by simpa [List.append_assoc] using h)
theorem plinsr0_ok {D : List Pp} (hn : D.length = n) (hb : n ≤ 1000000) {a : Int} (ha : a = (n : Int)) (h : St c w (own 108 7 A n k (D.flatMap pp) :: R)) {Q : Value → World → Prop}
    (hk : ∀ w', St c w' (own 108 7 A n k (D.flatMap pp) :: R) → Q (.tuple #[]) w') : CALL PG 150 [.slice A n k, .int .i64 a, .int .i64 (n : Int), cmp] w Q := by
  refine call150 ?_
  unfold N150
  subst ha
  refine leti (y := ((n + 1 : Nat) : Int)) (by rw [wrap_i64 (by omega) (by omega)]; omega) ?_
  refine ⟨fun m i w' => i = ((n + 1 : Nat) : Int) ∧ St c w' (own 108 7 A n k (D.flatMap pp) :: R), ⟨0, rfl, h⟩, ?_⟩
  rintro m _ w' ⟨rfl, h⟩
  exact ifd (fun hlt => absurd hlt (by omega)) fun _ => hk w' h
theorem plstab_ok (o : Ord Pp f) (hc : plCmp c R A n k V f cmp) (hb : n ≤ 100000) {D : List Pp} (hn : D.length = n) (hV : ∀ x ∈ D, V x) (h : St c w (own 108 7 A n k (D.flatMap pp) :: R)) {Q : Value → World → Prop}
    (hk : ∀ w' C, Srt f C → C.Perm D → St c w' (own 108 7 A n k (C.flatMap pp) :: R) → Q (.tuple #[]) w') : CALL PG 142 [.slice A n k, .int .i64 (n : Int), cmp] w Q := by
  refine call142 ?_
  unfold N142
  refine leti rfl ?_
  refine ⟨fun m a b w' => ∃ (LL : List (List Pp)) (rest : List Pp), m = rest.length ∧ a = ((LL.length * 20 : Nat) : Int) ∧ b = ((LL.length * 20 + 20 : Nat) : Int) ∧ (∀ B ∈ LL, B.length = 20 ∧ Srt f B) ∧ (LL.flatten ++ rest).Perm D ∧ St c w' (own 108 7 A n k ((LL.flatten ++ rest).flatMap pp) :: R),
    ⟨_, [], D, rfl, by simp, by simp, by simp, by simp, by simpa using h⟩, ?_⟩
  rintro m _ _ w' ⟨LL, rest, rfl, rfl, rfl, hLL, pD, h⟩
  have lF := flat_len (LL := LL) fun B hB => (hLL B hB).1
  have lD := pD.length_eq
  rw [List.length_append, lF, hn] at lD
  have hVr : ∀ x ∈ rest, V x := fun x hx => hV x (pD.mem_iff.1 (by simp [hx]))
  refine ifd (fun hlt => ?_) fun hge => ?_
  · obtain ⟨X, S, rfl, lX⟩ : ∃ X S, rest = X ++ S ∧ X.length = 20 := ⟨rest.take 20, rest.drop 20, (List.take_append_drop _ _).symm, by rw [List.length_take]; omega⟩
    have h1 : St c w' (own 108 7 A n k ((LL.flatten ++ X ++ S).flatMap pp) :: R) := by simpa [List.append_assoc] using h
    refine plinsr_ok o hc (by intro e; subst e; simp at lX) (by simp only [List.length_append] at lD ⊢; omega) (by omega) (fun x hx => hVr x (by simp [hx])) h1 (by rw [lF]) (by rw [lF, lX]) fun w' C hC pC h => ⟨rfl, leti rfl (leti (y := (((LL ++ [C]).length * 20 + 20 : Nat) : Int)) (by rw [wrap_i64 (by omega) (by omega)]; simp; omega) ?_)⟩
    have lC := pC.length_eq
    refine ⟨_, ?_, LL ++ [C], S, rfl, by simp; omega, rfl, ?_, ?_, ?_⟩
    · simp only [List.length_append]; omega
    · intro B hB
      simp only [List.mem_append, List.mem_singleton] at hB
      rcases hB with hB | rfl
      · exact hLL B hB
      · exact ⟨by omega, hC⟩
    · refine List.Perm.trans ?_ pD
      simp only [List.flatten_append, List.flatten_cons, List.flatten_nil, List.append_nil, List.append_assoc]
      exact List.Perm.append_left _ (List.Perm.append_right S pC)
    · simpa [List.append_assoc] using h
  have next : ∀ w' rest', Srt f rest' → rest'.Perm rest → St c w' (own 108 7 A n k ((LL.flatten ++ rest').flatMap pp) :: R) → ∃ (LL' : List (List Pp)) (last : List Pp), Blks f 20 LL' last ∧ (LL'.flatten ++ last).Perm D ∧ St c w' (own 108 7 A n k ((LL'.flatten ++ last).flatMap pp) :: R) := by
    intro w' rest' hs hp h
    have := hp.length_eq
    exact ⟨LL, rest', ⟨hLL, by omega, hs⟩, (List.Perm.append_left _ hp).trans pD, h⟩
  have main : ∀ w', (∃ (LL' : List (List Pp)) (last : List Pp), Blks f 20 LL' last ∧ (LL'.flatten ++ last).Perm D ∧ St c w' (own 108 7 A n k ((LL'.flatten ++ last).flatMap pp) :: R)) →
      ∃ I1 : Nat → Int → World → Prop, (∃ m3, I1 m3 (20 : Int) w') ∧ ∀ m4 (blockSize : Int) (w4 : World), I1 m4 blockSize w4 → IFB (decide (blockSize < (n : Int)))
        (LETI (IntKind.i64.wrap ((2 : Int) * blockSize)) fun b3 => ∃ I2 : Nat → Int → Int → World → Prop, (∃ m5, I2 m5 (0 : Int) b3 w4) ∧ ∀ m6 (a2 : Int) (b4 : Int) (w5 : World), I2 m6 a2 b4 w5 → IFB (decide (b4 ≤ (n : Int)))
          (CALL PG 151 [(.slice A n k), (.int .i64 a2), (.int .i64 (IntKind.i64.wrap (a2 + blockSize))), (.int .i64 b4), cmp] w5 fun v2 w6 => v2 = (.tuple #[]) ∧ (LETI b4 fun a3 => LETI (IntKind.i64.wrap (b4 + (IntKind.i64.wrap ((2 : Int) * blockSize)))) fun b5 => ∃ m7, m7 < m6 ∧ I2 m7 a3 b5 w6))
          (LETI (IntKind.i64.wrap (a2 + blockSize)) fun m8 => IFB (decide (m8 < (n : Int)))
            (CALL PG 151 [(.slice A n k), (.int .i64 a2), (.int .i64 m8), (.int .i64 (n : Int)), cmp] w5 fun v3 w7 => v3 = (.tuple #[]) ∧ (LETI (IntKind.i64.wrap (blockSize * (2 : Int))) fun blockSize1 => ∃ m9, m9 < m4 ∧ I1 m9 blockSize1 w7))
            (LETI (IntKind.i64.wrap (blockSize * (2 : Int))) fun blockSize2 => ∃ m10, m10 < m4 ∧ I1 m10 blockSize2 w5)))
        (Q (.tuple #[]) w4) := by
    rintro w' ⟨LL', last, hB, pD', h⟩
    refine ⟨fun m b w' => ∃ (bs : Nat) (LL : List (List Pp)) (last : List Pp), m = n + n - bs ∧ b = (bs : Int) ∧ 20 ≤ bs ∧ bs < 2 * n + 21 ∧ Blks f bs LL last ∧ (LL.flatten ++ last).Perm D ∧ St c w' (own 108 7 A n k ((LL.flatten ++ last).flatMap pp) :: R),
      ⟨_, 20, LL', last, rfl, rfl, Nat.le_refl _, by omega, hB, pD', h⟩, ?_⟩
    clear hB pD' h
    rintro m _ w' ⟨bs, LL, last, rfl, rfl, hbs, hbs2, hB, pD, h⟩
    have lF := flat_len (LL := LL) fun B hB' => (hB.full B hB').1
    have lD := pD.length_eq
    rw [List.length_append, lF, hn] at lD
    have hr := hB.rest
    refine ifd (fun hlt => ?_) fun hge => ?_
    rotate_left
    · refine hk w' _ ?_ pD h
      match LL, hB, lD with
      | [], hB, _ => simpa using hB.srt
      | [B], hB, lD =>
        have : last = [] := List.eq_nil_of_length_eq_zero (by simp at lD; omega)
        subst this
        simpa using (hB.full B (by simp)).2
      | B :: B' :: r, hB, lD =>
        exfalso
        simp only [List.length_cons, Nat.add_mul] at lD
        omega
    have e2 : IntKind.i64.wrap ((2 : Int) * (bs : Int)) = ((2 * bs : Nat) : Int) := by rw [wrap_i64 (by omega) (by omega)]; omega
    have e3 : IntKind.i64.wrap ((bs : Int) * 2) = ((2 * bs : Nat) : Int) := by rw [wrap_i64 (by omega) (by omega)]; omega
    rw [e2]
    refine leti rfl ?_
    refine ⟨fun m a b w' => ∃ (LD LR : List (List Pp)) (last : List Pp), m = LR.length ∧ a = ((LD.length * (2 * bs) : Nat) : Int) ∧ b = ((LD.length * (2 * bs) + 2 * bs : Nat) : Int) ∧ (∀ B ∈ LD, B.length = 2 * bs ∧ Srt f B) ∧ Blks f bs LR last ∧ (LD.flatten ++ LR.flatten ++ last).Perm D ∧ St c w' (own 108 7 A n k ((LD.flatten ++ LR.flatten ++ last).flatMap pp) :: R),
      ⟨_, [], LL, last, rfl, by simp, by simp, by simp, hB, by simpa using pD, by simpa using h⟩, ?_⟩
    clear hB pD h hr lF lD
    rintro m2 _ _ w' ⟨LD, LR, last, rfl, rfl, rfl, hLD, hB, pD, h⟩
    have lF := flat_len (LL := LD) fun B hB' => (hLD B hB').1
    have lR := flat_len (LL := LR) fun B hB' => (hB.full B hB').1
    have lD := pD.length_eq
    rw [List.length_append, List.length_append, lF, lR, hn] at lD
    have hr := hB.rest
    have hVp : ∀ x, x ∈ LD.flatten ++ LR.flatten ++ last → V x := fun x hx => hV x (pD.mem_iff.1 hx)
    obtain ⟨q, hq⟩ : ∃ q, q = LD.length * (2 * bs) := ⟨_, rfl⟩
    rw [← hq] at lF lD ⊢
    have ea : IntKind.i64.wrap ((q : Int) + (bs : Int)) = ((q + bs : Nat) : Int) := by rw [wrap_i64 (by omega) (by omega)]; omega
    rw [ea]
    refine ifd (fun hle => ?_) fun hgt => leti rfl ?_
    · match LR, hB, lR, lD, pD, h, hVp with
      | [], hB, lR, lD, _, _, _ => simp at lD; omega
      | [B], hB, lR, lD, _, _, _ => simp at lD; omega
      | B1 :: B2 :: r, hB, lR, lD, pD, h, hVp =>
        obtain ⟨l1, s1⟩ := hB.full B1 (by simp)
        obtain ⟨l2, s2⟩ := hB.full B2 (by simp)
        have h1 : St c w' (own 108 7 A n k ((LD.flatten ++ B1 ++ B2 ++ (r.flatten ++ last)).flatMap pp) :: R) := by simpa [List.append_assoc] using h
        have lr := flat_len (LL := r) fun B hB' => (hB.full B (by simp [hB'])).1
        simp only [List.length_cons, Nat.add_mul] at lD
        refine plsym_ok o hc (by omega) _ (Nat.le_refl _) (by intro e; subst e; simp at l1; omega) (by intro e; subst e; simp at l2; omega) s1 s2 (by simp only [List.length_append, lF, lr, l1, l2]; omega) (fun x hx => hVp x (by simp [hx])) (fun x hx => hVp x (by simp [hx])) h1 (by rw [lF]) (by rw [lF, l1]) (by rw [lF, l1, l2]; omega) fun w' C hC pC h => ⟨rfl, leti rfl (leti (y := (((LD ++ [C]).length * (2 * bs) + 2 * bs : Nat) : Int)) ?_ ?_)⟩
        · rw [wrap_i64 (by omega) (by omega), List.length_append, List.length_singleton, Nat.add_mul, ← hq]; omega
        · have lC := pC.length_eq
          rw [List.length_append, l1, l2] at lC
          refine ⟨r.length, by simp <;> omega, LD ++ [C], r, last, rfl, by rw [List.length_append, List.length_singleton, Nat.add_mul, ← hq]; omega, rfl, ?_, ⟨fun B hB' => hB.full B (by simp [hB']), hr, hB.srt⟩, ?_, ?_⟩
          · intro B hB'
            simp only [List.mem_append, List.mem_singleton] at hB'
            rcases hB' with hB' | rfl
            · exact hLD B hB'
            · exact ⟨by omega, hC⟩
          · refine List.Perm.trans ?_ pD
            simp only [List.flatten_append, List.flatten_cons, List.flatten_nil, List.append_nil, List.append_assoc]
            refine List.Perm.append_left _ ?_
            rw [← List.append_assoc B1]
            exact List.Perm.append_right _ pC
          · simpa [List.append_assoc] using h
    · have step : ∀ w' (LL : List (List Pp)) (last : List Pp), Blks f (2 * bs) LL last → (LL.flatten ++ last).Perm D → St c w' (own 108 7 A n k ((LL.flatten ++ last).flatMap pp) :: R) → ∃ m9, m9 < n + n - bs ∧ ∃ (bs' : Nat) (LL : List (List Pp)) (last : List Pp), m9 = n + n - bs' ∧ ((2 * bs : Nat) : Int) = (bs' : Int) ∧ 20 ≤ bs' ∧ bs' < 2 * n + 21 ∧ Blks f bs' LL last ∧ (LL.flatten ++ last).Perm D ∧ St c w' (own 108 7 A n k ((LL.flatten ++ last).flatMap pp) :: R) :=
        fun w' LL last hB pD h => ⟨_, by omega, 2 * bs, LL, last, rfl, rfl, by omega, by omega, hB, pD, h⟩
      rw [e3]
      match LR, hB, lR, lD, pD, h, hVp with
      | [], hB, lR, lD, pD, h, _ =>
        exact ifd (fun hc' => absurd hc' (by simp at lD; omega)) fun _ => leti rfl (step w' LD last ⟨hLD, by omega, hB.srt⟩ (by simpa using pD) (by simpa using h))
      | [B1], hB, lR, lD, pD, h, hVp =>
        obtain ⟨l1, s1⟩ := hB.full B1 (by simp)
        simp only [List.length_cons, List.length_nil] at lD
        refine ifd (fun hc' => ?_) fun hc' => ?_
        · have h1 : St c w' (own 108 7 A n k ((LD.flatten ++ B1 ++ last ++ []).flatMap pp) :: R) := by simpa [List.append_assoc] using h
          refine plsym_ok o hc (by omega) _ (Nat.le_refl _) (by intro e; subst e; simp at l1; omega) (by intro e; subst e; simp at lD; omega) s1 hB.srt (by simp only [List.length_append, lF, l1, List.length_nil]; omega) (fun x hx => hVp x (by simp [hx])) (fun x hx => hVp x (by simp [hx])) h1 (by rw [lF]) (by rw [lF, l1]) (by rw [lF, l1]; omega) fun w' C hC pC h => ⟨rfl, leti rfl ?_⟩
          have lC := pC.length_eq
          rw [List.length_append, l1] at lC
          refine step w' LD C ⟨hLD, by omega, hC⟩ ?_ (by simpa [List.append_assoc] using h)
          refine List.Perm.trans ?_ pD
          simp only [List.flatten_cons, List.flatten_nil, List.append_nil, List.append_assoc]
          exact List.Perm.append_left _ pC
        · have hl0 : last = [] := List.eq_nil_of_length_eq_zero (by omega)
          subst hl0
          exact leti rfl (step w' LD B1 ⟨hLD, by omega, s1⟩ (by simpa using pD) (by simpa using h))
      | B1 :: B2 :: r, hB, lR, lD, _, _, _ =>
        exfalso
        simp only [List.length_cons, Nat.add_mul] at lD
        omega
  by_cases h0 : rest = []
  · subst h0
    refine plinsr0_ok (D := LL.flatten ++ []) (by rw [List.append_nil, lF]; simp at lD; omega) (by omega) (by simp at lD; omega) h fun w' h => ⟨rfl, main w' (next w' [] List.Pairwise.nil (.refl _) h)⟩
  · have h1 : St c w' (own 108 7 A n k ((LL.flatten ++ rest ++ []).flatMap pp) :: R) := by simpa [List.append_assoc] using h
    refine plinsr_ok o hc h0 (by simp only [List.length_append, List.length_nil]; omega) (by omega) hVr h1 (by rw [lF]) (by rw [lF]; omega) fun w' C hC pC h => ⟨rfl, main w' (next w' C hC pC (by simpa using h))⟩
theorem plsort_ok (o : Ord Pp f) (hc : plCmp c R A n k V f cmp) (hb : n ≤ 100000) {D : List Pp} (hn : D.length = n) (hV : ∀ x ∈ D, V x) (h : St c w (own 108 7 A n k (D.flatMap pp) :: R)) {Q : Value → World → Prop}
    (hk : ∀ w' C, Srt f C → C.Perm D → St c w' (own 108 7 A n k (C.flatMap pp) :: R) → Q (.tuple #[]) w') : CALL PG 125 [.slice A n k, cmp] w Q := by
  refine call125 ?_
  unfold N125
  exact plstab_ok o hc hb hn hV h fun w' C hC pC h => ⟨rfl, hk w' C hC pC h⟩
end
end Go.Br
