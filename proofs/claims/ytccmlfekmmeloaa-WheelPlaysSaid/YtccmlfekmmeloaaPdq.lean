/- slices.Sort of numbers, of any length: the array, the pivot. -/
import Derived.Test.YtccmlfekmmeloaaNPdq
import Derived.Test.YtccmlfekmmeloaaSortInt
set_option linter.unusedVariables false
set_option linter.unusedSimpArgs false
set_option linter.unnecessarySimpa false
namespace Go.Br
open Go
instance biPdqa : Zro PG 3 1 8 (.int .i64 0) := ⟨tiOf (by kernel_rfl)⟩
attribute [local irreducible] Addr.add RD RDS RUN RUNU NILC LETB CALL CALLX CALLV

/-- The number at a place. -/
def at0 (D : List Int) (i : Nat) : Int := D.getD i 0
theorem at0_get {D : List Int} {i : Nat} (h : i < D.length) : D[i]? = some (at0 D i) := by
  unfold at0
  rw [List.getD_eq_getElem?_getD, List.getElem?_eq_getElem h]
  rfl
theorem at0_set {D : List Int} {i j : Nat} {x : Int} (h : i < D.length) : at0 (D.set i x) j = if j = i then x else at0 D j := by
  unfold at0
  rw [List.getD_eq_getElem?_getD, List.getElem?_set]
  by_cases hij : i = j
  · subst hij; simp [h]
  · rw [if_neg hij, if_neg (fun e => hij e.symm), List.getD_eq_getElem?_getD]
/-- Two places change their numbers. -/
def swp (D : List Int) (i j : Nat) : List Int := (D.set i (at0 D j)).set j (at0 D i)
theorem swp_length (D : List Int) (i j : Nat) : (swp D i j).length = D.length := by unfold swp; simp
theorem swp_at {D : List Int} {i j : Nat} (hi : i < D.length) (hj : j < D.length) (m : Nat) : at0 (swp D i j) m = if m = j then at0 D i else if m = i then at0 D j else at0 D m := by
  unfold swp
  rw [at0_set (by simpa using hj), at0_set hi]
theorem swp_perm {D : List Int} {i j : Nat} (hi : i < D.length) (hj : j < D.length) : (swp D i j).Perm D := by
  unfold swp
  have h1 : at0 D j = D[j] := by
    have := at0_get hj
    rw [List.getElem?_eq_getElem hj] at this
    injection this with this
    exact this.symm
  have h2 : at0 D i = D[i] := by
    have := at0_get hi
    rw [List.getElem?_eq_getElem hi] at this
    injection this with this
    exact this.symm
  rw [h1, h2]
  exact List.set_set_perm hi hj
/-- The numbers of some places are mixed; the others stay. -/
structure Mix (a b : Nat) (D D' : List Int) : Prop where
  len : D'.length = D.length
  perm : D'.Perm D
  out : ∀ i, i < a ∨ b ≤ i → at0 D' i = at0 D i
  sub : ∀ t, a ≤ t → t < b → ∃ s, a ≤ s ∧ s < b ∧ at0 D' t = at0 D s
theorem Mix.refl (a b : Nat) (D : List Int) : Mix a b D D := ⟨rfl, .refl _, fun _ _ => rfl, fun t h1 h2 => ⟨t, h1, h2, rfl⟩⟩
theorem Mix.trans {a b : Nat} {D D' D'' : List Int} (h : Mix a b D D') (h' : Mix a b D' D'') : Mix a b D D'' := ⟨h'.len.trans h.len, h'.perm.trans h.perm, fun i hi => (h'.out i hi).trans (h.out i hi), fun t h1 h2 => by
  obtain ⟨s, s1, s2, s3⟩ := h'.sub t h1 h2
  obtain ⟨r, r1, r2, r3⟩ := h.sub s s1 s2
  exact ⟨r, r1, r2, s3.trans r3⟩⟩
theorem Mix.mono {a b a' b' : Nat} {D D' : List Int} (h : Mix a b D D') (ha : a' ≤ a) (hb : b ≤ b') : Mix a' b' D D' := ⟨h.len, h.perm, fun i hi => h.out i (by omega), fun t h1 h2 => by
  by_cases e : a ≤ t ∧ t < b
  · obtain ⟨s, s1, s2, s3⟩ := h.sub t e.1 e.2
    exact ⟨s, by omega, by omega, s3⟩
  · exact ⟨t, h1, h2, h.out t (by omega)⟩⟩
theorem Mix.swp {a b : Nat} {D : List Int} {i j : Nat} (hi : a ≤ i ∧ i < b) (hj : a ≤ j ∧ j < b) (hb : b ≤ D.length) : Mix a b D (Br.swp D i j) :=
  ⟨swp_length D i j, swp_perm (by omega) (by omega), fun m hm => by rw [swp_at (by omega) (by omega), if_neg (by omega), if_neg (by omega)], fun t h1 h2 => by
    by_cases e1 : t = j
    · exact ⟨i, hi.1, hi.2, by rw [swp_at (by omega) (by omega), if_pos e1]⟩
    · by_cases e2 : t = i
      · exact ⟨j, hj.1, hj.2, by rw [swp_at (by omega) (by omega), if_neg e1, if_pos e2]⟩
      · exact ⟨t, h1, h2, by rw [swp_at (by omega) (by omega), if_neg e1, if_neg e2]⟩⟩
section
variable {c : Ctx} {w : World} {L R : List SA} {A : Option Addr} {n k : Nat} {D : List Int}
/-- A number is read. -/
theorem St.arrR {K : Int → Prop} (h : St c w L) (hp : Pick (Br.own 3 1 A n k (D.flatMap iv)) L R) (hn : D.length = n) {i : Nat} (hi : i < n) (hk : K (at0 D i)) :
    IDX A n (i : Int) fun a => RDI PG (loadVar 3 (Addr.add a (Int.toNat (i : Int) * 1))) .i64 w K :=
  h.ix (z := 0) (RdIn.own hp) (at0_get (by omega)) (fun a ha => by subst ha; exact h.rdWI (RdIn.own hp) (at0_get (by omega)) hk) hi
/-- A number is written. -/
theorem St.arrW {K : World → Prop} (h : St c w L) (hp : Pick (Br.own 3 1 A n k (D.flatMap iv)) L R) (hn : D.length = n) {i : Nat} (hi : i < n) {x : Int} (hk : ∀ w', St c w' (Br.own 3 1 A n k ((D.set i x).flatMap iv) :: R) → K w') :
    IDX A n (i : Int) fun a => RUNU PG (storeVar 3 (Addr.add a (Int.toNat (i : Int) * 1)) (.int .i64 x)) w K :=
  h.ix (z := 0) (RdIn.own hp) (at0_get (by omega)) (fun a ha => by subst ha; exact h.stE hp (by omega) x (iv_flat1 x) hk) hi
theorem order2_ok (h : St c w (own 3 1 A n k (D.flatMap iv) :: L)) (hn : D.length = n) {a b q : Nat} {s : Int} (hp : Pick (Br.blk q 3 [.int .i64 s]) L R) (ha : a < n) (hb : b < n) {Q : Value → World → Prop}
    (hk : ∀ (x y : Nat) (s' : Int) w', ((x = a ∧ y = b) ∨ (x = b ∧ y = a)) → St c w' (own 3 1 A n k (D.flatMap iv) :: Br.blk q 3 [.int .i64 s'] :: R) → Q (.tuple #[.int .i64 (x : Int), .int .i64 (y : Int)]) w') :
    CALL PG 191 [.slice A n k, .int .i64 (a : Int), .int .i64 (b : Int), .pointer (some ⟨q, 0, none⟩)] w Q := by
  have h := (h.pick (.tail hp)).swap
  refine call191 ?_
  unfold N191
  have h := h.drew
  refine h.arrR .head hn hb ?_
  refine h.arrR .head hn ha ?_
  refine less_ok ?_
  (repeat (first | apply Exists.intro (α := Int) | apply Exists.intro (α := Bool) | apply Exists.intro (α := ByteArray) | (apply Exists.intro (α := Option Addr); apply Exists.intro (α := Nat); apply Exists.intro (α := Nat)) | apply Exists.intro (α := Option Addr) | apply Exists.intro (α := Value)))
  refine ⟨rfl, ?_⟩
  refine ifd (fun _ => ?_) fun _ => leti rfl (leti rfl (hk a b s _ (.inl ⟨rfl, rfl⟩) h))
  refine nilc ?_
  refine h.rdvI ?_
  refine nilc ?_
  refine h.stV fun w' h => ?_
  exact leti rfl (leti rfl (hk b a _ _ (.inr ⟨rfl, rfl⟩) h.swap))
theorem median_ok (h : St c w (own 3 1 A n k (D.flatMap iv) :: L)) (hn : D.length = n) {a b d q : Nat} {s : Int} (hp : Pick (Br.blk q 3 [.int .i64 s]) L R) (ha : a < n) (hb : b < n) (hd : d < n) {Q : Value → World → Prop}
    (hk : ∀ (x : Nat) (s' : Int) w', (x = a ∨ x = b ∨ x = d) → St c w' (own 3 1 A n k (D.flatMap iv) :: Br.blk q 3 [.int .i64 s'] :: R) → Q (.int .i64 (x : Int)) w') :
    CALL PG 180 [.slice A n k, .int .i64 (a : Int), .int .i64 (b : Int), .int .i64 (d : Int), .pointer (some ⟨q, 0, none⟩)] w Q := by
  refine call180 ?_
  unfold N180
  refine order2_ok h hn hp ha hb fun x1 y1 s1 w' e1 h => ?_
  (repeat (first | apply Exists.intro (α := Int) | apply Exists.intro (α := Bool) | apply Exists.intro (α := ByteArray) | (apply Exists.intro (α := Option Addr); apply Exists.intro (α := Nat); apply Exists.intro (α := Nat)) | apply Exists.intro (α := Option Addr) | apply Exists.intro (α := Value)))
  refine ⟨rfl, ?_⟩
  refine leti rfl (leti rfl ?_)
  refine order2_ok h hn .head (by omega) hd fun x2 y2 s2 w' e2 h => ?_
  (repeat (first | apply Exists.intro (α := Int) | apply Exists.intro (α := Bool) | apply Exists.intro (α := ByteArray) | (apply Exists.intro (α := Option Addr); apply Exists.intro (α := Nat); apply Exists.intro (α := Nat)) | apply Exists.intro (α := Option Addr) | apply Exists.intro (α := Value)))
  refine ⟨rfl, ?_⟩
  refine leti rfl (leti rfl ?_)
  refine order2_ok h hn .head (by omega) (by omega) fun x3 y3 s3 w' e3 h => ?_
  (repeat (first | apply Exists.intro (α := Int) | apply Exists.intro (α := Bool) | apply Exists.intro (α := ByteArray) | (apply Exists.intro (α := Option Addr); apply Exists.intro (α := Nat); apply Exists.intro (α := Nat)) | apply Exists.intro (α := Option Addr) | apply Exists.intro (α := Value)))
  refine ⟨rfl, ?_⟩
  exact leti rfl (leti rfl (leti rfl (hk y3 s3 _ (by omega) h)))
theorem medadj_ok (h : St c w (own 3 1 A n k (D.flatMap iv) :: L)) (hn : D.length = n) (hb : n ≤ 1000000) {a q : Nat} {s : Int} (hp : Pick (Br.blk q 3 [.int .i64 s]) L R) (ha : 0 < a ∧ a + 1 < n) {Q : Value → World → Prop}
    (hk : ∀ (x : Nat) (s' : Int) w', a - 1 ≤ x ∧ x ≤ a + 1 → St c w' (own 3 1 A n k (D.flatMap iv) :: Br.blk q 3 [.int .i64 s'] :: R) → Q (.int .i64 (x : Int)) w') :
    CALL PG 179 [.slice A n k, .int .i64 (a : Int), .pointer (some ⟨q, 0, none⟩)] w Q := by
  refine call179 ?_
  unfold N179
  rw [show IntKind.i64.wrap ((a : Int) - 1) = ((a - 1 : Nat) : Int) by rw [wrap_i64 (by omega) (by omega)]; omega, show IntKind.i64.wrap ((a : Int) + 1) = ((a + 1 : Nat) : Int) by rw [wrap_i64 (by omega) (by omega)]; omega]
  refine median_ok h hn hp (by omega) (by omega) (by omega) fun x s' w' hx h => ?_
  (repeat (first | apply Exists.intro (α := Int) | apply Exists.intro (α := Bool) | apply Exists.intro (α := ByteArray) | (apply Exists.intro (α := Option Addr); apply Exists.intro (α := Nat); apply Exists.intro (α := Nat)) | apply Exists.intro (α := Option Addr) | apply Exists.intro (α := Value)))
  refine ⟨rfl, ?_⟩
  exact leti rfl (hk x s' _ (by omega) h)
theorem choose_ok (h : St c w (own 3 1 A n k (D.flatMap iv) :: L)) (hn : D.length = n) (hb : n ≤ 1000000) {a b : Nat} (hab : a + 12 < b) (hbn : b ≤ n) {Q : Value → World → Prop}
    (hk : ∀ (x : Nat) (hint : Int) w', a ≤ x ∧ x < b → St c w' (own 3 1 A n k (D.flatMap iv) :: L) → Q (.tuple #[.int .i64 (x : Int), .int .i64 hint]) w') :
    CALL PG 150 [.slice A n k, .int .i64 (a : Int), .int .i64 (b : Int)] w Q := by
  refine call150 ?_
  unfold N150
  refine leti (y := ((b - a : Nat) : Int)) (by rw [wrap_i64 (by omega) (by omega)]; omega) ?_
  refine h.allocZV fun q w' h => ?_
  have ed : IntKind.i64.wrap (Int.tdiv ((b - a : Nat) : Int) 4) = (((b - a) / 4 : Nat) : Int) := by
    rw [Int.tdiv_eq_ediv_of_nonneg (by omega), wrap_i64 (by omega) (by omega)]
    omega
  rw [ed]
  generalize hd : (b - a) / 4 = e at *
  have he : 3 ≤ e ∧ 4 * e ≤ b - a := by omega
  refine ⟨by decide, leti (y := ((a + e : Nat) : Int)) (by rw [wrap_i64 (n := (e : Int) * 1) (by omega) (by omega), wrap_i64 (by omega) (by omega)]; omega) ?_⟩
  refine ⟨by decide, leti (y := ((a + 2 * e : Nat) : Int)) (by rw [wrap_i64 (n := (e : Int) * 2) (by omega) (by omega), wrap_i64 (by omega) (by omega)]; omega) ?_⟩
  refine ⟨by decide, leti (y := ((a + 3 * e : Nat) : Int)) (by rw [wrap_i64 (n := (e : Int) * 3) (by omega) (by omega), wrap_i64 (by omega) (by omega)]; omega) ?_⟩
  refine ⟨fun j w' => ∃ (x : Nat) (s : Int), j = x ∧ a ≤ x ∧ x < b ∧ St c w' (own 3 1 A n k (D.flatMap iv) :: Br.blk q 3 [.int .i64 s] :: L), ?_, ?_⟩
  · have h := h.swap
    refine ifdt (by omega) (ifd (fun _ => ?_) fun _ => ?_)
    · refine medadj_ok h hn hb .head (by omega) fun x1 s1 w' hx1 h => ?_
      (repeat (first | apply Exists.intro (α := Int) | apply Exists.intro (α := Bool) | apply Exists.intro (α := ByteArray) | (apply Exists.intro (α := Option Addr); apply Exists.intro (α := Nat); apply Exists.intro (α := Nat)) | apply Exists.intro (α := Option Addr) | apply Exists.intro (α := Value)))
      refine ⟨rfl, ?_⟩
      refine leti rfl ?_
      refine medadj_ok h hn hb .head (by omega) fun x2 s2 w' hx2 h => ?_
      (repeat (first | apply Exists.intro (α := Int) | apply Exists.intro (α := Bool) | apply Exists.intro (α := ByteArray) | (apply Exists.intro (α := Option Addr); apply Exists.intro (α := Nat); apply Exists.intro (α := Nat)) | apply Exists.intro (α := Option Addr) | apply Exists.intro (α := Value)))
      refine ⟨rfl, ?_⟩
      refine leti rfl ?_
      refine medadj_ok h hn hb .head (by omega) fun x3 s3 w' hx3 h => ?_
      (repeat (first | apply Exists.intro (α := Int) | apply Exists.intro (α := Bool) | apply Exists.intro (α := ByteArray) | (apply Exists.intro (α := Option Addr); apply Exists.intro (α := Nat); apply Exists.intro (α := Nat)) | apply Exists.intro (α := Option Addr) | apply Exists.intro (α := Value)))
      refine ⟨rfl, ?_⟩
      refine leti rfl ?_
      refine median_ok h hn .head (by omega) (by omega) (by omega) fun x s' w' hx h => ?_
      (repeat (first | apply Exists.intro (α := Int) | apply Exists.intro (α := Bool) | apply Exists.intro (α := ByteArray) | (apply Exists.intro (α := Option Addr); apply Exists.intro (α := Nat); apply Exists.intro (α := Nat)) | apply Exists.intro (α := Option Addr) | apply Exists.intro (α := Value)))
      refine ⟨rfl, ?_⟩
      exact leti rfl ⟨x, s', rfl, by omega, by omega, h⟩
    · refine median_ok h hn .head (by omega) (by omega) (by omega) fun x s' w' hx h => ?_
      (repeat (first | apply Exists.intro (α := Int) | apply Exists.intro (α := Bool) | apply Exists.intro (α := ByteArray) | (apply Exists.intro (α := Option Addr); apply Exists.intro (α := Nat); apply Exists.intro (α := Nat)) | apply Exists.intro (α := Option Addr) | apply Exists.intro (α := Value)))
      refine ⟨rfl, ?_⟩
      exact leti rfl ⟨x, s', rfl, by omega, by omega, h⟩
  clear h
  rintro _ w' ⟨x, s, rfl, hx1, hx2, h⟩
  refine h.rdvI ?_
  have h := (h.swap).drop
  refine letb rfl (ifb (fun _ => leti rfl (hk x _ _ ⟨hx1, hx2⟩ h)) fun _ => letb rfl (ifb (fun _ => leti rfl (hk x _ _ ⟨hx1, hx2⟩ h)) fun _ => leti rfl (hk x _ _ ⟨hx1, hx2⟩ h)))
theorem reverse_ok (h : St c w (own 3 1 A n k (D.flatMap iv) :: L)) (hn : D.length = n) (hb : n ≤ 1000000) {a b : Nat} (hab : a < b) (hbn : b ≤ n) {Q : Value → World → Prop}
    (hk : ∀ D' w', Mix a b D D' → St c w' (own 3 1 A n k (D'.flatMap iv) :: L) → Q (.tuple #[]) w') :
    CALL PG 151 [.slice A n k, .int .i64 (a : Int), .int .i64 (b : Int)] w Q := by
  refine call151 ?_
  unfold N151
  refine leti rfl (leti (y := ((b - 1 : Nat) : Int)) (by rw [wrap_i64 (by omega) (by omega)]; omega) ?_)
  refine ⟨fun m i j w' => ∃ (i' j' : Nat) (D' : List Int), i = i' ∧ j = j' ∧ m = j' - i' ∧ a ≤ i' ∧ j' < b ∧ i' ≤ b ∧ Mix a b D D' ∧ St c w' (own 3 1 A n k (D'.flatMap iv) :: L), ⟨_, a, b - 1, D, rfl, rfl, rfl, by omega, by omega, by omega, .refl _ _ _, h⟩, ?_⟩
  clear h
  rintro m _ _ w' ⟨i, j, D', rfl, rfl, rfl, hi, hj, hib, hM, h⟩
  have lD := hM.len
  refine ifd (fun hlt => ?_) fun _ => hk D' _ hM h
  have h := h.drew
  refine h.arrR .head (by omega) (by omega) ?_
  refine h.arrR .head (by omega) (by omega) ?_
  refine h.arrW .head (by omega) (by omega) fun w' h => ?_
  refine h.arrW .head (by rw [List.length_set]; omega) (by omega) fun w' h => ?_
  refine leti (y := ((i + 1 : Nat) : Int)) (by rw [wrap_i64 (by omega) (by omega)]; omega) (leti (y := ((j - 1 : Nat) : Int)) (by rw [wrap_i64 (by omega) (by omega)]; omega) ⟨_, by omega, i + 1, j - 1, swp D' i j, rfl, rfl, rfl, by omega, by omega, by omega, hM.trans (Mix.swp ⟨hi, by omega⟩ ⟨by omega, hj⟩ (by omega)), h⟩)
end
end Go.Br
