/- A short slice of numbers is sorted (insertion), and made to hold each once. -/
import Derived.Test.YtccmlfekmmeloaaNSortInt
import Derived.Test.YtccmlfekmmeloaaSortPure
import Derived.Test.YtccmlfekmmeloaaBrOwn
import Derived.Test.YtccmlfekmmeloaaBrSeat
set_option linter.unusedVariables false
set_option linter.unusedSimpArgs false
set_option linter.unnecessarySimpa false
namespace Go.Br
open Go
attribute [local irreducible] Addr.add RD RDS RUN RUNU NILC LETB CALL CALLX CALLV

theorem tiInt : TI PG 3 1 8 (.int .i64 0) := tiOf (by kernel_rfl)
theorem huInts : PG.underlying 89 = some (.slice 3) := by kernel_rfl
theorem iv_flat1 (x : Int) : Flat (iv x) := by intro v hv; simp [iv] at hv; rw [hv]; rfl
theorem iv_flat (L : List Int) : Flat (L.flatMap iv) := by
  intro v hv
  simp only [List.mem_flatMap] at hv
  obtain ⟨x, _, hx⟩ := hv
  exact iv_flat1 x v hx
/-- The order of numbers. -/
def fI (x y : Int) : Int := x - y
theorem ordI : Ord Int fI := ⟨fun x => by unfold fI; omega, fun x y z h1 h2 => by unfold fI at *; omega, fun x y h => by unfold fI at *; omega⟩
/-- Each of a row of equal neighbours once. -/
def ddS (a : List Int) (x : Int) : List Int := if a.getLast? = some x then a else a ++ [x]
def dd (l : List Int) : List Int := l.foldl ddS []
theorem dd_snoc (l : List Int) (x : Int) : dd (l ++ [x]) = ddS (dd l) x := by unfold dd; rw [List.foldl_append]; rfl
theorem dd_last (l : List Int) : (dd l).getLast? = l.getLast? := by
  rcases List.eq_nil_or_concat l with rfl | ⟨q, x, rfl⟩
  · rfl
  · rw [List.concat_eq_append, dd_snoc]
    unfold ddS
    split
    · rename_i h; rw [h]; simp
    · simp
theorem dd_snoc' (l : List Int) (x : Int) : dd (l ++ [x]) = if l.getLast? = some x then dd l else dd l ++ [x] := by rw [dd_snoc, ddS, dd_last]
theorem dd_mem (n : Nat) : ∀ l : List Int, l.length = n → ∀ x, x ∈ dd l ↔ x ∈ l := by
  induction n with
  | zero => intro l hl x; rw [List.length_eq_zero_iff.1 hl]; rfl
  | succ n ih =>
    intro l hl x
    rcases List.eq_nil_or_concat l with rfl | ⟨q, y, rfl⟩
    · simp at hl
    rw [List.concat_eq_append] at *
    have hq := ih q (by simp at hl; exact hl) x
    rw [dd_snoc']
    split
    · rename_i h
      rw [hq, List.mem_append, List.mem_singleton]
      exact ⟨.inl, fun e => e.elim id fun e => by subst e; exact List.mem_of_getLast? h⟩
    · rw [List.mem_append, hq, List.mem_append]
theorem dd_strict (n : Nat) : ∀ l : List Int, l.length = n → Srt fI l → (dd l).Pairwise (· < ·) := by
  induction n with
  | zero => intro l hl _; rw [List.length_eq_zero_iff.1 hl]; exact List.Pairwise.nil
  | succ n ih =>
    intro l hl hs
    rcases List.eq_nil_or_concat l with rfl | ⟨q, y, rfl⟩
    · simp at hl
    rw [List.concat_eq_append] at *
    have hs' := Srt.app.1 hs
    have hq := ih q (by simp at hl; exact hl) hs'.1
    rw [dd_snoc']
    split
    · exact hq
    · rename_i hne
      refine List.pairwise_append.2 ⟨hq, List.pairwise_singleton _ _, fun a ha b hb => ?_⟩
      rw [List.mem_singleton] at hb
      subst hb
      rw [dd_mem _ q rfl] at ha
      have h1 := hs'.2.2 a ha b (by simp)
      unfold Le fI at h1
      rcases Int.lt_or_le a b with h2 | h2
      · exact h2
      exfalso
      rcases List.eq_nil_or_concat q with rfl | ⟨r, z, rfl⟩
      · simp at ha
      rw [List.concat_eq_append] at *
      have hz := Srt.last ordI hs'.1 ha
      have hz2 := hs'.2.2 z (by simp) b (by simp)
      unfold Le fI at hz hz2
      apply hne
      simp
      omega
theorem strict_ext : ∀ {A B : List Int}, A.Pairwise (· < ·) → B.Pairwise (· < ·) → (∀ x, x ∈ A ↔ x ∈ B) → A = B
  | [], [], _, _, _ => rfl
  | [], b :: B, _, _, h => absurd ((h b).2 (by simp)) (by simp)
  | a :: A, [], _, _, h => absurd ((h a).1 (by simp)) (by simp)
  | a :: A, b :: B, hA, hB, h => by
    have a1 := List.pairwise_cons.1 hA
    have b1 := List.pairwise_cons.1 hB
    have e : a = b := by
      have h1 := (h a).1 (by simp)
      have h2 := (h b).2 (by simp)
      simp only [List.mem_cons] at h1 h2
      rcases h1 with h1 | h1
      · exact h1
      rcases h2 with h2 | h2
      · exact h2.symm
      have := a1.1 b h2
      have := b1.1 a h1
      omega
    subst e
    rw [strict_ext a1.2 b1.2 fun x => ⟨fun hx => ?_, fun hx => ?_⟩]
    · have := (h x).1 (by simp [hx])
      have hl := a1.1 x hx
      simp only [List.mem_cons] at this
      rcases this with e | e
      · omega
      · exact e
    · have := (h x).2 (by simp [hx])
      have hl := b1.1 x hx
      simp only [List.mem_cons] at this
      rcases this with e | e
      · omega
      · exact e
theorem bitlen8 {x : Int} (h0 : 0 ≤ x) (h1 : x < 256) : IntKind.u8.wrap x = x := by rw [wrapU8]; omega
section
variable {c : Ctx} {w : World} {R : List SA} {A : Option Addr} {n k : Nat}
theorem less_ok {x y : Int} {Q : Value → World → Prop} (hk : Q (.bool (decide (x < y))) w) : CALL PG 153 [.int .i64 x, .int .i64 y] w Q := by
  refine call153 ?_
  unfold N153
  refine call181 ?_
  unfold N181
  refine letb rfl ?_
  (repeat (first | apply Exists.intro (α := Int) | apply Exists.intro (α := Bool) | apply Exists.intro (α := ByteArray) | (apply Exists.intro (α := Option Addr); apply Exists.intro (α := Nat); apply Exists.intro (α := Nat)) | apply Exists.intro (α := Option Addr) | apply Exists.intro (α := Value)))
  refine ⟨rfl, ?_⟩
  exact iff_ (by simp) (letb rfl hk)
theorem len64_ok {x : Int} (h0 : 0 ≤ x) (h1 : x < 256) {Q : Value → World → Prop} (hk : ∀ y, Q (.int .i64 y) w) : CALL PG 157 [.int .u64 x] w Q := by
  refine call157 ?_
  unfold N157
  refine ⟨fun a b w' => a = x ∧ b = 0 ∧ w' = w, ifdf (by omega) ⟨rfl, rfl, rfl⟩, ?_⟩
  rintro x _ w ⟨rfl, rfl, rfl⟩
  refine ⟨fun a b w' => a = x ∧ b = 0 ∧ w' = w, ifdf (by omega) ⟨rfl, rfl, rfl⟩, ?_⟩
  rintro x _ w ⟨rfl, rfl, rfl⟩
  refine ifdf (by omega) ?_
  rw [bitlen8 h0 h1]
  refine ⟨⟨h0, ?_⟩, leti rfl (hk _)⟩
  exact Int.lt_of_lt_of_le h1 (Int.le_of_eq (by kernel_rfl))
theorem len_ok' {x : Int} (h0 : 0 ≤ x) (h1 : x < 256) {Q : Value → World → Prop} (hk : ∀ y, Q (.int .i64 y) w) : CALL PG 131 [.int .u64 x] w Q := by
  refine call131 ?_
  unfold N131
  exact len64_ok h0 h1 fun y => ⟨_, rfl, leti rfl (hk _)⟩
theorem insI_ok {X : List Int} (hn : X.length = n) (hb : n ≤ 1000000) (h : St c w (own 3 1 A n k (X.flatMap iv) :: R)) {Q : Value → World → Prop}
    (hk : ∀ w' C, Srt fI C → C.Perm X → St c w' (own 3 1 A n k (C.flatMap iv) :: R) → Q (.tuple #[]) w') : CALL PG 147 [.slice A n k, .int .i64 0, .int .i64 (n : Int)] w Q := by
  refine call147 ?_
  unfold N147
  refine leti (y := 1) (by decide) ?_
  by_cases x0 : X = []
  · subst x0
    simp at hn
    subst hn
    refine ⟨fun m i w' => i = 1 ∧ St c w' (own 3 1 A 0 k (([] : List Int).flatMap iv) :: R), ⟨0, rfl, h⟩, ?_⟩
    rintro m _ w' ⟨rfl, h⟩
    exact ifdf (by decide) (hk w' [] List.Pairwise.nil (.refl _) h)
  have x1 := List.length_pos_iff.2 x0
  refine ⟨fun m i w' => ∃ (j : Nat) (U : List Int), j + m = X.length ∧ i = (j : Int) ∧ U.length = j ∧ Srt fI U ∧ U.Perm (X.take j) ∧ St c w' (own 3 1 A n k ((U ++ X.drop j).flatMap iv) :: R),
    ⟨X.length - 1, 1, X.take 1, by omega, rfl, by rw [List.length_take]; omega, by cases X with | nil => exact absurd rfl x0 | cons x r => exact List.pairwise_singleton _ _, .refl _, by rw [List.take_append_drop]; exact h⟩, ?_⟩
  clear h
  rintro m _ w' ⟨j, U, hj, rfl, hU, hs, hp, h⟩
  refine ifd (fun hlt => leti rfl ?_) fun hge => ?_
  rotate_left
  · have e : j = X.length := by omega
    rw [e, List.take_length] at hp
    rw [e, List.drop_eq_nil_of_le (Nat.le_refl _), List.append_nil] at h
    exact hk w' U hs hp h
  obtain ⟨z, hz⟩ := ex_get (L := X) (j := j) (by omega)
  have ed := drop_cons' hz
  have next : IntKind.i64.wrap ((j : Int) + 1) = ((j + 1 : Nat) : Int) := by rw [wrap_i64 (by omega) (by omega)]; omega
  refine ⟨fun m2 i w' => ∃ (U1 U2 : List Int), m2 = U1.length ∧ i = (U1.length : Int) ∧ U = U1 ++ U2 ∧ (∀ y, U2.head? = some y → Le fI z y) ∧ St c w' (own 3 1 A n k ((U1 ++ z :: U2 ++ X.drop (j + 1)).flatMap iv) :: R),
    ⟨_, U, [], rfl, by rw [hU], by simp, by simp, by rw [ed] at h; simpa [List.append_assoc] using h⟩, ?_⟩
  clear h
  rintro m2 _ w' ⟨U1, U2, rfl, rfl, hU12, hz2, h⟩
  have hjl : U1.length + U2.length = j := by rw [← hU, hU12, List.length_append]
  have lD : (X.drop (j + 1)).length = X.length - (j + 1) := by simp
  have done : ∀ w', St c w' (own 3 1 A n k ((U1 ++ z :: U2 ++ X.drop (j + 1)).flatMap iv) :: R) → (∀ x, U1.getLast? = some x → Le fI x z) → ∃ m5, m5 < m ∧ ∃ (j' : Nat) (U : List Int), j' + m5 = X.length ∧ ((j + 1 : Nat) : Int) = (j' : Int) ∧ U.length = j' ∧ Srt fI U ∧ U.Perm (X.take j') ∧ St c w' (own 3 1 A n k ((U ++ X.drop j').flatMap iv) :: R) := by
    intro w' h h1
    refine ⟨m - 1, by omega, j + 1, U1 ++ z :: U2, by omega, rfl, by simp <;> omega, Srt.ins ordI (by rw [← hU12]; exact hs) h1 hz2, ?_, h⟩
    rw [take_snoc' hz]
    refine List.Perm.trans ?_ (List.Perm.append_right [z] hp)
    rw [hU12]
    have : (U1 ++ z :: U2).Perm (z :: (U1 ++ U2)) := List.perm_middle
    exact this.trans (List.perm_append_singleton z (U1 ++ U2)).symm
  refine ifd (fun hlt2 => ?_) fun hge2 => ?_
  rotate_left
  · have : U1 = [] := List.eq_nil_of_length_eq_zero (by omega)
    subst this
    exact leti next (done _ h.drew (by simp))
  rcases List.eq_nil_or_concat U1 with rfl | ⟨q, u, rfl⟩
  · simp at hlt2
  rw [List.concat_eq_append] at *
  have h := h.drew
  have e0 : q ++ [u] ++ z :: U2 ++ X.drop (j + 1) = q ++ u :: z :: (U2 ++ X.drop (j + 1)) := by simp [List.append_assoc]
  have lq : (q ++ [u]).length = q.length + 1 := by simp
  rw [lq] at hjl hlt2 ⊢
  rw [e0] at h
  have e1 : IntKind.i64.wrap (((q.length + 1 : Nat) : Int) - 1) = (q.length : Int) := by rw [wrap_i64 (by omega) (by omega)]; omega
  rw [e1]
  have gz : (q ++ u :: z :: (U2 ++ X.drop (j + 1)))[q.length + 1]? = some z := by rw [List.getElem?_append_right (by omega)]; simp
  have gu : (q ++ u :: z :: (U2 ++ X.drop (j + 1)))[q.length]? = some u := by rw [List.getElem?_append_right (by omega)]; simp
  have lT : (q ++ u :: z :: (U2 ++ X.drop (j + 1))).length = n := by simp <;> omega
  refine h.ix (z := 0) (RdIn.own .head) gz (fun a ha => ?_) (by omega)
  subst ha
  refine h.rdWI (RdIn.own .head) gz ?_
  refine h.ix (z := 0) (RdIn.own .head) gu (fun a ha => ?_) (by omega)
  injection ha with ha
  subst ha
  refine h.rdWI (RdIn.own .head) gu ?_
  refine less_ok ?_
  (repeat (first | apply Exists.intro (α := Int) | apply Exists.intro (α := Bool) | apply Exists.intro (α := ByteArray) | (apply Exists.intro (α := Option Addr); apply Exists.intro (α := Nat); apply Exists.intro (α := Nat)) | apply Exists.intro (α := Option Addr) | apply Exists.intro (α := Value)))
  refine ⟨rfl, ?_⟩
  refine ifd (fun hcm => ?_) fun hcm => ?_
  rotate_left
  · rw [← e0] at h
    exact leti next (done _ h fun x hx => by simp at hx; subst hx; unfold Le fI; omega)
  have h := h.drew
  refine h.ix (z := 0) (RdIn.own .head) gu (fun a ha => ?_) (by omega)
  injection ha with ha
  subst ha
  refine h.rdWI (RdIn.own .head) gu ?_
  refine h.ix (z := 0) (RdIn.own .head) gz (fun a ha => ?_) (by omega)
  injection ha with ha
  subst ha
  refine h.rdWI (RdIn.own .head) gz ?_
  refine h.ix (z := 0) (RdIn.own .head) gz (fun a ha => ?_) (by omega)
  injection ha with ha
  subst ha
  refine h.stE .head (by omega) u (iv_flat1 u) fun w' h => ?_
  have gu' : ((q ++ u :: z :: (U2 ++ X.drop (j + 1))).set (q.length + 1) u)[q.length]? = some u := by rw [List.getElem?_set_ne (by omega)]; exact gu
  refine h.ix (z := 0) (RdIn.own .head) gu' (fun a ha => ?_) (by omega)
  injection ha with ha
  subst ha
  refine h.stE .head (by rw [List.length_set]; omega) z (iv_flat1 z) fun w' h => ?_
  have sw : ((q ++ u :: z :: (U2 ++ X.drop (j + 1))).set (q.length + 1) u).set q.length z = q ++ z :: (u :: U2) ++ X.drop (j + 1) := by
    rw [List.set_append_right _ _ (by omega), List.set_append_right _ _ (by omega)]
    simp
  rw [sw] at h
  exact leti rfl ⟨_, by omega, q, u :: U2, rfl, rfl, by rw [hU12]; simp, fun y hy => by simp at hy; subst hy; unfold Le fI; omega, h⟩
theorem sortI_ok {X : List Int} (hn : X.length = n) (hb : n ≤ 12) (h : St c w (own 3 1 A n k (X.flatMap iv) :: R)) {Q : Value → World → Prop}
    (hk : ∀ w' C, Srt fI C → C.Perm X → St c w' (own 3 1 A n k (C.flatMap iv) :: R) → Q (.tuple #[]) w') : CALL PG 98 [.slice A n k] w Q := by
  refine call98 ?_
  unfold N98
  refine leti rfl ?_
  rw [show IntKind.u64.wrap (n : Int) = n by rw [wrapU64]; omega]
  refine len_ok' (by omega) (by omega) fun y => ?_
  (repeat (first | apply Exists.intro (α := Int) | apply Exists.intro (α := Bool) | apply Exists.intro (α := ByteArray) | (apply Exists.intro (α := Option Addr); apply Exists.intro (α := Nat); apply Exists.intro (α := Nat)) | apply Exists.intro (α := Option Addr) | apply Exists.intro (α := Value)))
  refine ⟨rfl, ?_⟩
  refine call130 ?_
  unfold N130
  refine ⟨fun m a b l x y w' => a = 0 ∧ b = (n : Int) ∧ w' = w, ⟨0, rfl, rfl, rfl⟩, ?_⟩
  rintro m _ _ l x y w' ⟨rfl, rfl, rfl⟩
  refine leti (y := (n : Int)) (by rw [wrap_i64 (by omega) (by omega)]; omega) (ifdt (by omega) ?_)
  refine insI_ok hn (by omega) h fun w' C hC pC h => ?_
  (repeat (first | apply Exists.intro (α := Int) | apply Exists.intro (α := Bool) | apply Exists.intro (α := ByteArray) | (apply Exists.intro (α := Option Addr); apply Exists.intro (α := Nat); apply Exists.intro (α := Nat)) | apply Exists.intro (α := Option Addr) | apply Exists.intro (α := Value)))
  refine ⟨rfl, ?_⟩
  (repeat (first | apply Exists.intro (α := Int) | apply Exists.intro (α := Bool) | apply Exists.intro (α := ByteArray) | (apply Exists.intro (α := Option Addr); apply Exists.intro (α := Nat); apply Exists.intro (α := Nat)) | apply Exists.intro (α := Option Addr) | apply Exists.intro (α := Value)))
  refine ⟨rfl, ?_⟩
  exact hk _ C hC pC h
end
end Go.Br
