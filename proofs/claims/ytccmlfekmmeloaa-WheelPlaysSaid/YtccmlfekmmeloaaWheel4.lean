/- A wheel of timers: what isn't to be done any more; what comes next. -/
import Derived.Test.YtccmlfekmmeloaaNWheel4
import Derived.Test.YtccmlfekmmeloaaIx
import Derived.Test.YtccmlfekmmeloaaWheelOnceLaw
set_option linter.unusedVariables false
set_option linter.unusedSimpArgs false
set_option linter.unnecessarySimpa false
namespace Go.Br
open Go
instance biWheel4a : Zro PG 174 2 16 (.agg #[.int .i64 0, .int .i64 0]) := ⟨tiOf (by kernel_rfl)⟩
instance biWheel4b : Zro PG 167 2 16 (.agg #[.int .i64 0, .int .i64 0]) := ⟨tiOf (by kernel_rfl)⟩
attribute [local irreducible] Addr.add RD RDS RUN RUNU NILC LETB CALL CALLX CALLV

abbrev tmv (t : Tm) : Value := .agg #[.int .i64 t.id, .int .i64 (t.at' : Int)]
theorem tiPl : TI PG 174 2 16 (.agg #[.int .i64 0, .int .i64 0]) := tiOf (by kernel_rfl)
theorem tm_flat (l : List Tm) : Flat (l.flatMap tm) := by
  intro v hv
  simp only [List.mem_flatMap] at hv
  obtain ⟨x, _, hx⟩ := hv
  exact tm_flat1 x v hx
theorem wtixf_ok {c : Ctx} {w : World} {L : List SA} (h : St c w L) {A : Option Addr} {k : Nat} {S : List Tm} {fv : Value} {pr : Tm → Bool} (hr : RdIn L A (S.flatMap tm)) (hl : S.length ≤ 100000)
    (hf : ∀ (x : Tm) {w : World} {Q : Value → World → Prop}, St c w L → (∀ w', St c w' L → Q (.bool (pr x)) w') → CALLV PG fv [tmv x] w Q) {Q : Value → World → Prop}
    (hk : ∀ w', St c w' L → Q (.int .i64 (ixI pr S)) w') : CALL PG 132 [.slice A S.length k, fv] w Q := by
  refine call132 ?_
  unfold N132
  refine ⟨fun m i w' => ∃ j : Nat, j + m = S.length ∧ i = (j : Int) ∧ (∀ x ∈ S.take j, pr x = false) ∧ St c w' L, ⟨S.length, 0, by omega, rfl, by simp, h⟩, ?_⟩
  clear h
  rintro m _ w' ⟨j, hj, rfl, hno, h⟩
  refine ifd (fun hlt => ?_) fun hge => ?_
  · obtain ⟨x, hx⟩ := ex_get (L := S) (j := j) (by omega)
    refine leti rfl ?_
    refine h.ix (z := 1) hr hx fun a ha => ?_
    have hr1 := hr
    rw [ha] at hr1
    refine h.rdEG hr1 hx ?_
    (repeat (first | apply Exists.intro (α := Int) | apply Exists.intro (α := Bool) | apply Exists.intro (α := ByteArray) | (apply Exists.intro (α := Option Addr); apply Exists.intro (α := Nat); apply Exists.intro (α := Nat)) | apply Exists.intro (α := Option Addr) | apply Exists.intro (α := Value)))
    refine ⟨rfl, ?_⟩
    refine hf x h fun w' h => ?_
    (repeat (first | apply Exists.intro (α := Int) | apply Exists.intro (α := Bool) | apply Exists.intro (α := ByteArray) | (apply Exists.intro (α := Option Addr); apply Exists.intro (α := Nat); apply Exists.intro (α := Nat)) | apply Exists.intro (α := Option Addr) | apply Exists.intro (α := Value)))
    refine ⟨rfl, ?_⟩
    refine ifb (fun hp => ?_) fun hp => ⟨m - 1, by omega, j + 1, by omega, wrap_i64 (by omega) (by omega), fun y hy => ?_, h⟩
    · refine leti (ixI_some hx hno hp).symm (hk _ h)
    · rw [take_snoc' hx] at hy
      rcases List.mem_append.1 hy with hy | hy
      · exact hno y hy
      · simp at hy; subst hy; exact hp
  · have : j = S.length := by omega
    subst this
    rw [List.take_length] at hno
    have hk := hk _ h
    rwa [ixI_none hno] at hk
theorem tiwtF : TI PG 167 2 16 (.agg #[.int .i64 0, .int .i64 0]) := tiOf (by kernel_rfl)
theorem huwtF : PG.underlying 160 = some (.slice 167) := by kernel_rfl
theorem wtdelf_ok {c : Ctx} {w : World} {L R : List SA} (h : St c w L) {A : Option Addr} {d : Nat} {S : List Tm} {fv : Value} {pr : Tm → Bool} (hp : Pick (own 167 2 A S.length d (S.flatMap tm)) L R) (hl : S.length ≤ 100000)
    (hf : ∀ (x : Tm) {M : List SA} {w : World} {Q : Value → World → Prop}, St c w (M ++ R) → (∀ w', St c w' (M ++ R) → Q (.bool (pr x)) w') → CALLV PG fv [tmv x] w Q) {Q : Value → World → Prop}
    (hk : ∀ O d' w', St c w' (own 167 2 O (S.filter fun x => !(pr x)).length d' ((S.filter fun x => !(pr x)).flatMap tm) :: R) → Q (.slice O (S.filter fun x => !(pr x)).length d') w') : CALL PG 100 [.slice A S.length d, fv] w Q := by
  have h := h.pick hp
  have hle := (h.own .head).le
  refine call100 ?_
  unfold N100
  refine wtixf_ok h (pr := pr) (RdIn.own .head) hl (fun x w Q h hk => hf x (M := [_]) h hk) fun w' h => ?_
  (repeat (first | apply Exists.intro (α := Int) | apply Exists.intro (α := Bool) | apply Exists.intro (α := ByteArray) | (apply Exists.intro (α := Option Addr); apply Exists.intro (α := Nat); apply Exists.intro (α := Nat)) | apply Exists.intro (α := Option Addr) | apply Exists.intro (α := Value)))
  refine ⟨rfl, ?_⟩
  refine leti rfl ?_
  by_cases hany : S.findIdx pr < S.length
  rotate_left
  · have hno : ∀ x ∈ S, pr x = false := fun x hx => by
      cases hx' : pr x with
      | false => rfl
      | true => exact absurd (List.findIdx_lt_length.2 ⟨x, hx, hx'⟩) hany
    rw [ixI_none hno]
    have e : (S.filter fun x => !(pr x)) = S := List.filter_eq_self.2 fun x hx => by rw [hno x hx]; rfl
    have hk := hk A d w'
    rw [e] at hk
    exact ift rfl (hk h)
  obtain ⟨x0, hx0⟩ := ex_get (L := S) hany
  have hix : ixI pr S = ((S.findIdx pr : Nat) : Int) := by unfold ixI; rw [if_pos hany]
  have hpx0 : pr x0 = true := by
    have := List.findIdx_getElem (w := hany)
    obtain ⟨_, e⟩ := List.getElem?_eq_some_iff.1 hx0
    rwa [e] at this
  have hbef : ∀ y ∈ S.take (S.findIdx pr), pr y = false := fun y hy => by
    obtain ⟨k, hk⟩ := List.mem_iff_getElem?.1 hy
    rw [List.getElem?_take] at hk
    split at hk
    · rename_i hlt
      obtain ⟨hk1, e⟩ := List.getElem?_eq_some_iff.1 hk
      have := List.not_of_lt_findIdx hlt
      rw [e] at this
      simpa using this
    · cases hk
  rw [hix]
  generalize S.findIdx pr = i0 at *
  refine ifq (fun e => absurd e (by omega)) fun _ => leti (y := ((i0 + 1 : Nat) : Int)) (by rw [wrap_i64 (by omega) (by omega)]; omega) ?_
  have f0 : (S.take (i0 + 1)).filter (fun x => !(pr x)) = S.take i0 := by
    rw [take_snoc' hx0, List.filter_append, List.filter_eq_self.2 (fun x hx => by rw [hbef x hx]; rfl)]
    simp [hpx0]
  refine ⟨fun m i j w' => ∃ (q : Nat) (Y : List Tm), j = q ∧ m = S.length - q ∧ q ≤ S.length ∧ i = (((S.take q).filter fun x => !(pr x)).length : Int) ∧ ((S.take q).filter fun x => !(pr x)).length < q ∧ (((S.take q).filter fun x => !(pr x)) ++ Y).length = S.length ∧ (((S.take q).filter fun x => !(pr x)) ++ Y).drop q = S.drop q ∧
    St c w' (own 167 2 A S.length d ((((S.take q).filter fun x => !(pr x)) ++ Y).flatMap tm) :: R), ⟨_, i0 + 1, S.drop i0, rfl, rfl, by omega, by rw [f0, List.length_take]; omega, by rw [f0, List.length_take]; omega, by rw [f0]; simp, by rw [f0]; simp, by rw [f0]; simpa using h⟩, ?_⟩
  clear h f0 hbef hx0 hpx0
  rintro m _ _ w' ⟨q, Y, rfl, rfl, hq, rfl, hEq, hYl, hYd, h⟩
  generalize hEE : ((S.take q).filter fun x => !(pr x)) = E at *
  refine ifd (fun hlt => ?_) fun hge => ?_
  · obtain ⟨x, hx⟩ := ex_get (L := S) (j := q) (by omega)
    have hx2 : (E ++ Y)[q]? = some x := by
      have := congrArg (fun l => l[0]?) hYd
      simp only [List.getElem?_drop, Nat.add_zero] at this
      rw [this]; exact hx
    have hst : ((S.take (q + 1)).filter fun x => !(pr x)) = E ++ if pr x = true then [] else [x] := by
      rw [take_snoc' hx, List.filter_append, hEE]
      cases hpx : pr x <;> simp [hpx]
    have nx : IntKind.i64.wrap ((q : Int) + 1) = ((q + 1 : Nat) : Int) := by rw [wrap_i64 (by omega) (by omega)]; omega
    have hr : RdIn (own 167 2 A S.length d ((E ++ Y).flatMap tm) :: R) A ((E ++ Y).flatMap tm) := RdIn.own .head
    refine h.ix (z := 1) hr hx2 (fun b hb => ?_) (by omega)
    subst hb
    refine h.rdEG hr hx2 ?_
    (repeat (first | apply Exists.intro (α := Int) | apply Exists.intro (α := Bool) | apply Exists.intro (α := ByteArray) | (apply Exists.intro (α := Option Addr); apply Exists.intro (α := Nat); apply Exists.intro (α := Nat)) | apply Exists.intro (α := Option Addr) | apply Exists.intro (α := Value)))
    refine ⟨rfl, ?_⟩
    refine h.allocZ fun a w' h => ?_
    refine h.stG fun w' h => ?_
    refine h.rdG ?_
    (repeat (first | apply Exists.intro (α := Int) | apply Exists.intro (α := Bool) | apply Exists.intro (α := ByteArray) | (apply Exists.intro (α := Option Addr); apply Exists.intro (α := Nat); apply Exists.intro (α := Nat)) | apply Exists.intro (α := Option Addr) | apply Exists.intro (α := Value)))
    refine ⟨rfl, ?_⟩
    refine hf x (M := [_, _]) h fun w' h => ?_
    have h : St c w' (_ :: _ :: R) := h
    (repeat (first | apply Exists.intro (α := Int) | apply Exists.intro (α := Bool) | apply Exists.intro (α := ByteArray) | (apply Exists.intro (α := Option Addr); apply Exists.intro (α := Nat); apply Exists.intro (α := Nat)) | apply Exists.intro (α := Option Addr) | apply Exists.intro (α := Value)))
    refine ⟨rfl, ?_⟩
    refine ifnot (fun hpx => ?_) fun hpx => ?_
    rotate_left
    · rw [hpx, if_pos rfl, List.append_nil] at hst
      refine leti nx ⟨_, by omega, q + 1, Y, rfl, rfl, by omega, by rw [hst], by rw [hst]; omega, by rw [hst]; exact hYl, ?_, by rw [hst]; exact h.drop⟩
      rw [hst, Nat.add_comm q 1, Nat.add_comm, ← List.drop_drop, hYd, List.drop_drop]
    · rw [hpx, if_neg (by simp)] at hst
      refine h.rdG ?_
      (repeat (first | apply Exists.intro (α := Int) | apply Exists.intro (α := Bool) | apply Exists.intro (α := ByteArray) | (apply Exists.intro (α := Option Addr); apply Exists.intro (α := Nat); apply Exists.intro (α := Nat)) | apply Exists.intro (α := Option Addr) | apply Exists.intro (α := Value)))
      refine ⟨rfl, ?_⟩
      have h := h.drop
      obtain ⟨y, Y', rfl⟩ : ∃ y Y', Y = y :: Y' := by
        cases Y with
        | nil => simp at hYl; omega
        | cons y Y' => exact ⟨y, Y', rfl⟩
      obtain ⟨z, hz⟩ := ex_get (L := E ++ y :: Y') (j := E.length) (by omega)
      refine h.ix (z := 1) (RdIn.own .head) hz (fun b hb => ?_) (by omega)
      injection hb with hb
      subst hb
      refine h.stE .head (by omega) x (tm_flat1 x) fun w' h => ?_
      have es : (E ++ y :: Y').set E.length x = E ++ [x] ++ Y' := by simp
      rw [es] at h
      refine leti (y := ((E.length + 1 : Nat) : Int)) (by rw [wrap_i64 (by omega) (by omega)]; omega) (leti nx ⟨_, by omega, q + 1, Y', rfl, rfl, by omega, by rw [hst, List.length_append]; simp, by rw [hst, List.length_append]; simp; omega, by rw [hst]; simp at hYl ⊢; omega, ?_, by rw [hst]; exact h⟩)
      rw [hst, ← es, List.drop_set_of_lt (by omega), Nat.add_comm q 1, Nat.add_comm, ← List.drop_drop, hYd, List.drop_drop]
  · have eq : q = S.length := by omega
    rw [eq, List.take_length] at hEE
    rw [hEE] at hk
    refine ⟨by omega, ?_⟩
    simp only [Int.toNat_natCast]
    obtain ⟨B, sp, eB, e2, e3, e4, h⟩ := h.ownBlk (by omega)
    rw [eB, cutA_at (by simp only [Int.toNat_natCast]; omega), Nat.zero_add]
    simp only [Int.toNat_natCast]
    have lE : (E.flatMap tm).length = E.length * 2 := flat_length tm_length E
    have lXf : ((E ++ Y).flatMap tm).length = S.length * 2 := by rw [flat_length tm_length, hYl]
    have lYf : (Y.flatMap tm).length = (S.length - E.length) * 2 := by rw [flat_length tm_length]; congr 1; rw [List.length_append] at hYl; omega
    refine h.clearB .head huwtF tiwtF (by simp only [List.length_append, lXf, e2]; omega) fun w' h => ?_
    refine ⟨by omega, ?_⟩
    simp only [cutA_zero, Int.toNat_natCast, Int.toNat_zero, Nat.sub_zero]
    generalize hZ : zeros _ (S.length - E.length) = Z at h
    have lZ : Z.length = (S.length - E.length) * 2 := by rw [← hZ, zeros_length]; rfl
    rw [List.flatMap_append, List.append_assoc, ← lE, splice_tail (by rw [List.length_append, lYf, lZ]; omega), List.append_assoc] at h
    refine hk _ _ _ (h.blkOwn lE ?_ (by omega))
    simp only [List.length_append, List.length_drop, lZ, e2, lYf]
    omega
theorem WI.uniq {now : Nat} {T : List Tm} {S : List (List Tm)} {E1 E2 : List (Int × Value)} (h : WI now T S E1 E2) {t u : Tm} (ht : t ∈ T) (hu : u ∈ T) (e : t.id = u.id) : t = u := by
  obtain ⟨i, hi⟩ := List.mem_iff_getElem?.1 ht
  obtain ⟨j, hj⟩ := List.mem_iff_getElem?.1 hu
  obtain ⟨i1, i2⟩ := List.getElem?_eq_some_iff.1 hi
  obtain ⟨j1, j2⟩ := List.getElem?_eq_some_iff.1 hj
  have key := List.pairwise_iff_getElem.1 h.ids
  rcases Nat.lt_trichotomy i j with hlt | heq | hgt
  · exact (key i j (by simpa using i1) (by simpa using j1) hlt (by rw [List.getElem_map, List.getElem_map, i2, j2, e])).elim
  · subst heq
    rw [← i2, ← j2]
  · exact (key j i (by simpa using j1) (by simpa using i1) hgt (by rw [List.getElem_map, List.getElem_map, i2, j2, e])).elim
/-- Not this number. -/
def notI (id : Int) (t : Tm) : Bool := !(t.id == id)
theorem WI.cancel {now : Nat} {T : List Tm} {S : List (List Tm)} {E1 E2 : List (Int × Value)} (h : WI now T S E1 E2) {t : Tm} (ht : t ∈ T) :
    WI now (T.filter (notI t.id)) (S.set (plc now t.at') ((S.getD (plc now t.at') []).filter (notI t.id))) (mdel E1 t.id) (mdel E2 t.id) := by
  have hS := h.len
  have hlt := plc_lt now t.at'
  have eS : S.set (plc now t.at') ((S.getD (plc now t.at') []).filter (notI t.id)) = S.map (List.filter (notI t.id)) := by
    refine List.ext_getElem? fun j => ?_
    rw [List.getElem?_set, List.getElem?_map]
    by_cases e : plc now t.at' = j
    · subst e
      rw [if_pos rfl, if_pos (by omega)]
      obtain ⟨l, hl⟩ := ex_get (L := S) (j := plc now t.at') (by omega)
      rw [hl, List.getD_eq_getElem?_getD, hl]
      rfl
    · rw [if_neg e]
      cases hj : S[j]? with
      | none => rfl
      | some l =>
        simp only [Option.map_some, Option.some.injEq]
        refine (List.filter_eq_self.2 fun u hu => ?_).symm
        have hm : u ∈ T := h.perm.mem_iff.1 (List.mem_flatten.2 ⟨l, List.mem_of_getElem? hj, hu⟩)
        unfold notI
        cases hb : u.id == t.id with
        | false => rfl
        | true =>
          have := h.uniq hm ht (by simpa using hb)
          subst this
          have h1 : j = plc now u.at' := h.stand j l hj u hu
          exact absurd h1.symm e
  obtain ⟨q1, q2⟩ := h.k1.mdel t.id
  obtain ⟨q3, q4⟩ := h.k2.mdel t.id
  have fm : ∀ {u : Tm}, u ∈ T.filter (notI t.id) → u ∈ T ∧ u.id ≠ t.id := fun {u} hu => by
    obtain ⟨h1, h2⟩ := List.mem_filter.1 hu
    unfold notI at h2
    exact ⟨h1, by simpa using h2⟩
  have sub : ∀ {i : Nat} {l : List Tm} {u : Tm}, (S.map (List.filter (notI t.id)))[i]? = some l → u ∈ l → ∃ m, S[i]? = some m ∧ u ∈ m ∧ u.id ≠ t.id := fun {i l u} hl hu => by
    rw [List.getElem?_map] at hl
    cases hm : S[i]? with
    | none => rw [hm] at hl; cases hl
    | some m =>
      rw [hm] at hl
      simp at hl
      subst hl
      obtain ⟨h1, h2⟩ := List.mem_filter.1 hu
      unfold notI at h2
      exact ⟨m, rfl, h1, by simpa using h2⟩
  rw [eS]
  refine ⟨by rw [List.length_map]; exact hS, ?_, fun i l hl u hu => ?_, (List.filter_sublist.map Tm.id).nodup h.ids, fun u hu => h.rng u (fm hu).1, q1, q3, fun u hu => ?_, fun k hk => ?_, fun i l hl u hu => ?_, fun k hk => ?_⟩
  · rw [← List.filter_flatten]
    exact h.perm.filter _
  · obtain ⟨m, h1, h2, _⟩ := sub hl hu
    exact h.stand i m h1 u h2
  · rw [q2, if_neg (fm hu).2]
    exact h.d1 u (fm hu).1
  · rw [q2]
    by_cases e : k = t.id
    · rw [if_pos e]
    · rw [if_neg e]
      refine h.n1 k fun u hu e2 => hk u (List.mem_filter.2 ⟨hu, ?_⟩) e2
      unfold notI
      simp
      rw [e2]; exact e
  · obtain ⟨m, h1, h2, h3⟩ := sub hl hu
    rw [q4, if_neg h3]
    exact h.d2 i m h1 u h2
  · rw [q4]
    by_cases e : k = t.id
    · rw [if_pos e]
    · rw [if_neg e]
      refine h.n2 k fun u hu e2 => hk u (List.mem_filter.2 ⟨hu, ?_⟩) e2
      unfold notI
      simp
      rw [e2]; exact e
theorem filt_one {T : List Tm} (h : (T.map Tm.id).Nodup) {t : Tm} (ht : t ∈ T) : (T.filter (notI t.id)).length + 1 = T.length := by
  obtain ⟨A, B, rfl⟩ := List.append_of_mem ht
  rw [List.map_append, List.map_cons, List.nodup_append] at h
  obtain ⟨h1, h2, h3⟩ := h
  rw [List.nodup_cons] at h2
  have eA : A.filter (notI t.id) = A := List.filter_eq_self.2 fun u hu => by
    unfold notI
    have := h3 u.id (List.mem_map.2 ⟨u, hu, rfl⟩) t.id (by simp)
    simpa using this
  have eB : B.filter (notI t.id) = B := List.filter_eq_self.2 fun u hu => by
    unfold notI
    have : u.id ≠ t.id := fun e => h2.1 (List.mem_map.2 ⟨u, hu, e⟩)
    simpa using this
  rw [List.filter_append, List.filter_cons_of_neg (by unfold notI; simp), eA, eB, List.length_append, List.length_append, List.length_cons]
  omega
theorem mget_mem : ∀ {E : List (Int × Value)}, KN E → ∀ {q : Int × Value}, q ∈ E → mget E q.1 = some q.2
  | [], _, q, h => by cases h
  | a :: E, hn, q, h => by
    unfold KN at hn
    rw [List.map_cons, List.nodup_cons] at hn
    rw [mget_cons]
    rw [List.mem_cons] at h
    rcases h with rfl | h
    · rw [if_pos rfl]
    · rw [if_neg (fun e => hn.1 (List.mem_map.2 ⟨q, h, e.symm⟩))]
      exact mget_mem hn.2 h
theorem mget_some : ∀ {E : List (Int × Value)} {k : Int} {v : Value}, mget E k = some v → ∃ q ∈ E, q.1 = k ∧ q.2 = v
  | [], k, v, h => by cases h
  | a :: E, k, v, h => by
    rw [mget_cons] at h
    by_cases e : a.1 = k
    · rw [if_pos e] at h
      injection h with h
      exact ⟨a, by simp, e, h⟩
    · rw [if_neg e] at h
      obtain ⟨q, h1, h2⟩ := mget_some h
      exact ⟨q, by simp [h1], h2⟩
theorem pick_more {A : SA} {L R : List SA} (h : Pick A L R) : ∀ {M : List SA}, Pick A (M ++ L) (M ++ R)
  | [] => h
  | B :: M => .tail (pick_more h)
section
variable {c : Ctx} {w : World} {L R : List SA} {p r1 r2 : Nat} {now : Nat} {most many : Int} {Z : List Sl} {E1 E2 : List (Int × Value)} {T : List Tm} {A : Option Addr} {k : Nat}
theorem St.rdsM {B : Nat} {T t : TypeId} {cs : List Value} {r : Nat} {K : Value → Prop} (o : Nat) (hp : Pick (Br.blk B T cs) L R) (hv : cs[o]? = some (.map (some r))) (hk : K (.map (some r))) (ht : ldT PG t = true := by kernel_rfl) : RDS PG (loadVar t (Addr.add ⟨B, 0, none⟩ o)) (fun w => St c w L) K :=
  RDS.of (fun w h => ld o (h.blk hp) hv ht) hk
theorem cancelf_ok (h : St c w L) {q : Nat} {id : Int} (hp : Pick (Br.blk q 3 [.int .i64 id]) L R) {t : Tm} {Q : Value → World → Prop} (hk : ∀ w', St c w' L → Q (.bool (!(notI id t))) w') : CALL PG 101 [tmv t, .pointer (some ⟨q, 0, none⟩)] w Q := by
  refine call101 ?_
  unfold N101
  refine h.box fun a w' h => ?_
  refine h.rdI 0 ?_
  refine h.rdvI ?_ (hp := .tail hp)
  refine letb rfl ?_
  have := hk _ h.drop
  unfold notI at this
  rw [Bool.not_not] at this
  exact this
theorem cancel_ok (h : St c w (wl p r1 r2 now most T.length Z E1 E2 L)) (hI : WI now T (Z.map Sl.l) E1 E2) (hZ : Z.length = 64) (hT : T.length ≤ 5000) {id : Int} {Q : Value → World → Prop}
    (hno : (∀ t ∈ T, t.id ≠ id) → ∀ w', St c w' (wl p r1 r2 now most T.length Z E1 E2 L) → Q (.bool false) w')
    (hyes : (∃ t ∈ T, t.id = id) → ∀ w' Z' E1' E2', WI now (T.filter (notI id)) (Z'.map Sl.l) E1' E2' → Z'.length = 64 → St c w' (wl p r1 r2 now most (T.filter (notI id)).length Z' E1' E2' L) → Q (.bool true) w') :
    CALL PG 47 [.pointer (some ⟨p, 0, none⟩), .int .i64 id] w Q := by
  refine call47 ?_
  unfold N47
  refine h.boxV fun q w' h => ?_
  have h := h.drew
  refine ⟨fun w => St c w [blk q 3 [.int .i64 id], blk p 164 (wc now most T.length Z r1 r2), mp r2 E2], h.sub (.cons .head (.cons .head (.cons (.tail .head) .nil))), ?_⟩
  refine nilc ?_
  refine St.rdsM 68 (.tail .head) (wc_m2 hZ) ⟨_, rfl, ?_⟩
  refine St.rdsvI ?_
  refine St.mlookS (.tail (.tail .head)) ?_ huIP hu64 tiPl
  by_cases hin : ∃ t ∈ T, t.id = id
  rotate_left
  · have hn : ∀ t ∈ T, t.id ≠ id := fun t ht e => hin ⟨t, ht, e⟩
    rw [hI.n2 id hn]
    refine ⟨_, _, _, rfl, ?_⟩
    refine h.allocZ fun q2 w' h => ?_
    refine ⟨_, fun _ h => h, h.sub (.cons (.tail .head) (.cons (.tail .head) (.cons (.tail (.tail .head)) .nil))), ?_⟩
    refine h.stG fun w' h => ?_
    refine ⟨_, fun _ h => h, h.sub (.cons (.tail .head) (.cons (.tail .head) (.cons (.tail (.tail .head)) .nil))), ?_⟩
    exact letb rfl (ift rfl (hno hn _ h.drop.drop))
  obtain ⟨t, ht, rfl⟩ := hin
  have hlt := plc_lt now t.at'
  have htS : t ∈ (Z.map Sl.l).flatten := hI.perm.mem_iff.2 ht
  obtain ⟨l, hl, htl⟩ := List.mem_flatten.1 htS
  obtain ⟨j, hj⟩ := List.mem_iff_getElem?.1 hl
  have hpj : j = plc now t.at' := hI.stand j l hj t htl
  subst hpj
  obtain ⟨s, hs⟩ := ex_get (L := Z) (j := plc now t.at') (by omega)
  have els : l = s.l := by
    rw [List.getElem?_map, hs] at hj
    simpa using hj.symm
  subst els
  have hsl : s.l.length ≤ 5000 := by have := sl_le (List.mem_of_getElem? hs); have := hI.perm.length_eq; omega
  rw [hI.d2 _ _ hj t htl]
  refine ⟨_, _, _, rfl, ?_⟩
  refine h.allocZ fun q2 w' h => ?_
  refine ⟨_, fun _ h => h, h.sub (.cons (.tail .head) (.cons (.tail .head) (.cons (.tail (.tail .head)) .nil))), ?_⟩
  refine h.stG fun w' h => ?_
  refine ⟨_, fun _ h => h, h.sub (.cons (.tail .head) (.cons (.tail .head) (.cons (.tail (.tail .head)) .nil))), ?_⟩
  refine letb rfl (iff_ rfl ?_)
  have h := h.drew
  refine h.rdI 0 ?_
  refine h.rdI 1 ?_
  have ea : plc now t.at' / 16 * 16 + plc now t.at' % 16 = plc now t.at' := by omega
  refine nilc ⟨by omega, by omega, ?_⟩
  rw [slot_adr, ea]
  refine h.rdL (3 + plc now t.at') ?_ (hp := .tail (.tail .head)) (hv := wc_get hs)
  refine wtdelf_ok h (pr := fun u => !(notI t.id u)) (.tail (.tail (.tail (.tail (.tail (pick_sl hs)))))) (by omega) (fun x M w Q h hk => callvT tabOk (by kernel_rfl) (cancelf_ok h (pick_more (.tail .head)) hk)) fun O d w' h => ?_
  simp only [Bool.not_not] at h ⊢
  (repeat (first | apply Exists.intro (α := Int) | apply Exists.intro (α := Bool) | apply Exists.intro (α := ByteArray) | (apply Exists.intro (α := Option Addr); apply Exists.intro (α := Nat); apply Exists.intro (α := Nat)) | apply Exists.intro (α := Option Addr) | apply Exists.intro (α := Value)))
  refine ⟨rfl, ?_⟩
  have hS' : (Z.set (plc now t.at') ⟨O, d, s.l.filter (notI t.id)⟩).length = 64 := by rw [List.length_set]; exact hZ
  have eF : (fun x => notI t.id x) = notI t.id := rfl
  have h : St c w' (slo ⟨O, d, s.l.filter (notI t.id)⟩ :: blk q2 174 [.int .i64 ((plc now t.at' / 16 : Nat) : Int), .int .i64 ((plc now t.at' % 16 : Nat) : Int)] :: blk q 3 [.int .i64 t.id] :: blk p 164 (wc now most T.length Z r1 r2) :: mp r1 E1 :: mp r2 E2 :: ((Z.eraseIdx (plc now t.at')).map slo ++ L)) := h
  have h := h
  refine h.st (3 + plc now t.at') (fun w' h => ?_) (hp := .tail (.tail (.tail .head))) (ho := by rw [wc_length]; omega)
  rw [show (Value.slice O (s.l.filter (notI t.id)).length d) = .slice (⟨O, d, s.l.filter (notI t.id)⟩ : Sl).A (⟨O, d, s.l.filter (notI t.id)⟩ : Sl).l.length (⟨O, d, s.l.filter (notI t.id)⟩ : Sl).k from rfl, wc_set (by omega)] at h
  have h := h.drew
  refine nilc (h.rdM 68 .head (wc_m2 hS') ⟨_, rfl, ?_⟩)
  refine h.rdvI ?_
  refine h.mdel (.tail (.tail (.tail (.tail (.tail .head))))) (fun w' h => ?_) huIP hu64
  have h := h.drew
  refine nilc (h.rdM 67 (.tail .head) (wc_m1 hS') ⟨_, rfl, ?_⟩)
  refine h.rdvI ?_
  refine h.mdel (.tail (.tail (.tail (.tail (.tail .head))))) (fun w' h => ?_) huII hu64
  refine nilc (h.rdI 2 (nilc ?_))
  refine h.st 2 fun w' h => ?_
  have h := h.sub (.cons (.tail (.tail (.tail .head))) (.cons .head (.cons .head (.cons .head (Sub.same _).more.more))))
  have hpk := pick_sl (L := L) (set_get (Z := Z) (i := plc now t.at') (s := ⟨O, d, s.l.filter (notI t.id)⟩) (by omega))
  rw [set_erase] at hpk
  have h := h.back (.tail (.tail (.tail hpk)))
  have hlen := filt_one hI.ids ht
  rw [show IntKind.i64.wrap ((T.length : Int) - 1) = ((T.filter (notI t.id)).length : Int) by rw [wrap_i64 (by omega) (by omega)]; omega] at h
  have hI' := hI.cancel ht
  rw [sl_get hs] at hI'
  refine hyes ⟨t, ht, rfl⟩ w' _ _ _ ?_ hS' h
  rw [List.map_set]
  exact hI'
theorem add_ok (h : St c w (wl p r1 r2 now most T.length Z E1 E2 L)) (hI : WI now T (Z.map Sl.l) E1 E2) (hZ : Z.length = 64) {id : Int} {k : Nat} (hk0 : 1 ≤ k) (hk1 : k ≤ 65535) (hn : now ≤ 2147483648) (hT : T.length ≤ 5000) {Q : Value → World → Prop}
    (hf : most ≤ ((T.filter (notI id)).length : Int) → ∀ w' Z' E1' E2', WI now (T.filter (notI id)) (Z'.map Sl.l) E1' E2' → Z'.length = 64 → St c w' (wl p r1 r2 now most (T.filter (notI id)).length Z' E1' E2' L) → Q (.bool false) w')
    (hk : ((T.filter (notI id)).length : Int) < most → ∀ w' Z' E1' E2', WI now (T.filter (notI id) ++ [⟨id, now + k⟩]) (Z'.map Sl.l) E1' E2' → Z'.length = 64 → St c w' (wl p r1 r2 now most (T.filter (notI id) ++ [(⟨id, now + k⟩ : Tm)]).length Z' E1' E2' L) → Q (.bool true) w') :
    CALL PG 39 [.pointer (some ⟨p, 0, none⟩), .int .i64 id, .int .i64 (k : Int)] w Q := by
  refine call39 ?_
  unfold N39
  refine ifdf (by omega) (ifdf (by omega) (nilc ?_))
  refine h.rdI 0 ?_
  refine ifdf (by omega) ?_
  refine ⟨fun w' => ∃ (Z' : List Sl) (E1' E2' : List (Int × Value)), WI now (T.filter (notI id)) (Z'.map Sl.l) E1' E2' ∧ Z'.length = 64 ∧ St c w' (wl p r1 r2 now most (T.filter (notI id)).length Z' E1' E2' L), ?_, ?_⟩
  · refine nilc (h.rdM 67 .head (wc_m1 hZ) ⟨_, rfl, ?_⟩)
    refine h.mlook (.tail .head) ?_ huII hu64 tiInt
    by_cases hin : ∃ t ∈ T, t.id = id
    · obtain ⟨t, ht, rfl⟩ := hin
      rw [hI.d1 t ht]
      refine ⟨_, _, rfl, leti rfl (letb rfl (ift rfl ?_))⟩
      refine cancel_ok h hI hZ hT (fun hno => absurd rfl (hno t ht)) fun _ w' Z' E1' E2' hI' hZ' h => ?_
      (repeat (first | apply Exists.intro (α := Int) | apply Exists.intro (α := Bool) | apply Exists.intro (α := ByteArray) | (apply Exists.intro (α := Option Addr); apply Exists.intro (α := Nat); apply Exists.intro (α := Nat)) | apply Exists.intro (α := Option Addr) | apply Exists.intro (α := Value)))
      refine ⟨rfl, ?_⟩
      exact ⟨Z', E1', E2', hI', hZ', h⟩
    · have hno : ∀ t ∈ T, t.id ≠ id := fun t ht e => hin ⟨t, ht, e⟩
      rw [hI.n1 id hno]
      have e : T.filter (notI id) = T := List.filter_eq_self.2 fun t ht => by unfold notI; simp [hno t ht]
      rw [e]
      exact ⟨_, _, rfl, leti rfl (letb rfl (iff_ rfl ⟨Z, E1, E2, hI, hZ, h⟩))⟩
  clear h
  rintro w' ⟨Z', E1', E2', hI', hZ', h⟩
  have hfr : ∀ t ∈ T.filter (notI id), t.id ≠ id := fun t ht => by
    have := (List.mem_filter.1 ht).2
    unfold notI at this
    simpa using this
  have hTl : (T.filter (notI id)).length ≤ 5000 := Nat.le_trans (List.length_filter_le _ _) hT
  generalize T.filter (notI id) = T' at *
  have h := h.drew
  refine nilc ?_
  refine h.rdI 2 ?_
  refine nilc ?_
  refine h.rdI 1 ?_
  refine ifd (fun hge => hf hge _ _ _ _ hI' hZ' h) fun hm => ?_
  have hm : (T'.length : Int) < most := by omega
  refine nilc (h.rdI 2 (nilc ?_))
  refine h.st 2 fun w' h => ?_
  have h := h.drew
  have ea : IntKind.i64.wrap ((now : Int) + (k : Int)) = ((now + k : Nat) : Int) := by rw [wrap_i64 (by omega) (by omega)]; omega
  refine nilc (h.rdM 67 .head (wc_m1 hZ') ⟨_, rfl, ?_⟩)
  refine nilc (h.rdI 0 ?_)
  rw [ea]
  refine h.mput (.tail .head) (fun w' h => ?_) huII hu64
  have h := h.swap
  refine nilc (h.rdI 0 ?_)
  rw [ea]
  refine RD.bld ?_
  (repeat (first | apply Exists.intro (α := Int) | apply Exists.intro (α := Bool) | apply Exists.intro (α := ByteArray) | (apply Exists.intro (α := Option Addr); apply Exists.intro (α := Nat); apply Exists.intro (α := Nat)) | apply Exists.intro (α := Option Addr) | apply Exists.intro (α := Value)))
  refine ⟨rfl, ?_⟩
  rw [show IntKind.i64.wrap ((T'.length : Int) + 1) = ((T' ++ [(⟨id, now + k⟩ : Tm)]).length : Int) by rw [List.length_append, wrap_i64 (by omega) (by omega)]; simp] at h
  refine put_ok (t := ⟨id, now + k⟩) (many := ((T' ++ [(⟨id, now + k⟩ : Tm)]).length : Int)) h hZ' (by omega) (show now + k ≤ 1000000000000 by omega) (fun s hs => by have := sl_le hs; have := hI'.perm.length_eq; omega) fun w' Z2 hZ2 eZ2 h => ⟨rfl, ?_⟩
  have hI2 := hI'.add (t := ⟨id, now + k⟩) hfr ⟨show now < now + k by omega, show now + k ≤ now + 65535 by omega⟩
  rw [← eZ2] at hI2
  exact hk hm w' Z2 _ _ hI2 hZ2 h
theorem due_ok (h : St c w (wl p r1 r2 now most T.length Z E1 E2 L)) (hI : WI now T (Z.map Sl.l) E1 E2) (hZ : Z.length = 64) (hn : now ≤ 100000000000) {id : Int} {Q : Value → World → Prop}
    (h0 : (∀ t ∈ T, t.id ≠ id) → St c w (wl p r1 r2 now most T.length Z E1 E2 L) → Q (.tuple #[.int .i64 0, .bool false]) w)
    (h1 : ∀ t ∈ T, t.id = id → St c w (wl p r1 r2 now most T.length Z E1 E2 L) → Q (.tuple #[.int .i64 ((t.at' : Int) - (now : Int)), .bool true]) w) : CALL PG 51 [.pointer (some ⟨p, 0, none⟩), .int .i64 id] w Q := by
  refine call51 ?_
  unfold N51
  refine nilc (h.rdM 67 .head (wc_m1 hZ) ⟨_, rfl, ?_⟩)
  refine h.mlook (.tail .head) ?_ huII hu64 tiInt
  by_cases hin : ∃ t ∈ T, t.id = id
  · obtain ⟨t, ht, rfl⟩ := hin
    have hr := hI.rng t ht
    rw [hI.d1 t ht]
    refine ⟨_, _, rfl, leti rfl (letb rfl (iff_ rfl ?_))⟩
    exact nilc (h.rdI 0 (leti (wrap_i64 (by omega) (by omega)) (h1 t ht rfl h)))
  · have hno : ∀ t ∈ T, t.id ≠ id := fun t ht e => hin ⟨t, ht, e⟩
    rw [hI.n1 id hno]
    exact ⟨_, _, rfl, leti rfl (letb rfl (ift rfl (h0 hno h)))⟩
theorem next_ok (h : St c w (wl p r1 r2 now most T.length Z E1 E2 L)) (hI : WI now T (Z.map Sl.l) E1 E2) (hZ : Z.length = 64) (hn : now ≤ 100000000000) {Q : Value → World → Prop}
    (h0 : T = [] → ∀ w', St c w' (wl p r1 r2 now most T.length Z E1 E2 L) → Q (.tuple #[.int .i64 0, .bool false]) w')
    (h1 : ∀ (n : Nat) w', (∃ t ∈ T, t.at' = now + n) → (∀ t ∈ T, now + n ≤ t.at') → St c w' (wl p r1 r2 now most T.length Z E1 E2 L) → Q (.tuple #[.int .i64 (n : Int), .bool true]) w') : CALL PG 44 [.pointer (some ⟨p, 0, none⟩)] w Q := by
  have hE : ∀ q ∈ E1, ∃ t ∈ T, q.1 = t.id ∧ q.2 = .int .i64 (t.at' : Int) := fun q hq => by
    by_cases hin : ∃ t ∈ T, t.id = q.1
    · obtain ⟨t, ht, e⟩ := hin
      refine ⟨t, ht, e.symm, ?_⟩
      have h2 := hI.d1 t ht
      rw [e] at h2
      have h3 := mget_mem hI.k1 hq
      rw [h3] at h2
      injection h2
    · exact absurd rfl (mget_none.1 (hI.n1 q.1 fun t ht e => hin ⟨t, ht, e⟩) q hq)
  have hT : ∀ t ∈ T, ∃ q ∈ E1, q.2 = .int .i64 (t.at' : Int) := fun t ht => by
    have h2 := hI.d1 t ht
    obtain ⟨q, hq, _, e⟩ := mget_some h2
    exact ⟨q, hq, e⟩
  refine call44 ?_
  unfold N44
  refine nilc (h.rdM 67 .head (wc_m1 hZ) ⟨_, rfl, ?_⟩)
  refine h.mrange (.tail .head) (fun it w' h => ?_) huII
  refine ⟨fun m best ok w' => ∃ (V : List (Int × Value)) (cur : Option (Int × Value)), m = V.length ∧ (∀ q ∈ V, q ∈ E1) ∧ ((ok = false ∧ best = 0 ∧ ∀ q ∈ E1, q ∈ V) ∨ (ok = true ∧ ∃ n : Nat, best = (n : Int) ∧ (∃ t ∈ T, t.at' = now + n) ∧ ∀ q ∈ E1, q ∈ V ∨ ∃ a : Nat, q.2 = .int .i64 (a : Int) ∧ now + n ≤ a)) ∧
    St c w' (mpr r1 it E1 V cur :: blk p 164 (wc now most T.length Z r1 r2) :: mp r2 E2 :: (Z.map slo ++ L)), ⟨_, E1, none, rfl, fun q hq => hq, .inl ⟨rfl, rfl, fun q hq => hq⟩, h⟩, ?_⟩
  clear h
  rintro m best ok w' ⟨V, cur, rfl, hV, hb, h⟩
  refine h.mnext .head (fun w' hV0 h => ⟨false, [], rfl, iff_ rfl ?_⟩) fun q V' w' hp h => ⟨true, [_, _], rfl, ift rfl ?_⟩
  · subst hV0
    have h := h.mend.swap
    rcases hb with ⟨rfl, rfl, hall⟩ | ⟨rfl, n, rfl, ⟨t, ht, et⟩, hall⟩
    · refine leti rfl (letb rfl (h0 ?_ _ h))
      cases T with
      | nil => rfl
      | cons t T =>
        obtain ⟨q, hq, _⟩ := hT t (by simp)
        cases hall q hq
    · refine leti rfl (letb rfl (h1 n _ ⟨t, ht, et⟩ (fun u hu => ?_) h))
      obtain ⟨q, hq, eq⟩ := hT u hu
      rcases hall q hq with hq2 | ⟨a, ea, hle⟩
      · cases hq2
      · rw [eq] at ea
        injection ea with _ ea
        omega
  obtain ⟨t, ht, eq1, eq2⟩ := hE q (hV q (hp.mem_iff.2 (by simp)))
  have hr := hI.rng t ht
  have hlen := hp.length_eq
  rw [List.length_cons] at hlen
  refine h.mentry .head ⟨_, _, rfl, ?_⟩
  refine ⟨_, eq2, leti rfl ?_⟩
  have hV' : ∀ q ∈ V', q ∈ E1 := fun x hx => hV x (hp.mem_iff.2 (by simp [hx]))
  obtain ⟨n0, hn0⟩ : ∃ n0 : Nat, t.at' = now + n0 := ⟨t.at' - now, by omega⟩
  have ew : IntKind.i64.wrap ((t.at' : Int) - (now : Int)) = (n0 : Int) := by rw [wrap_i64 (by omega) (by omega)]; omega
  have mem : ∀ {x}, x ∈ V → x ∈ V' ∨ x = q := fun {x} hx => by
    have := hp.mem_iff.1 hx
    rw [List.mem_cons] at this
    exact this.symm
  rcases hb with ⟨rfl, rfl, hall⟩ | ⟨rfl, n, rfl, hex, hall⟩
  · refine ift rfl (nilc (h.rdI 0 (leti ew ⟨_, by omega, V', _, rfl, hV', .inr ⟨rfl, n0, rfl, ⟨t, ht, hn0⟩, fun x hx => ?_⟩, h⟩)))
    rcases mem (hall x hx) with hx | rfl
    · exact .inl hx
    · exact .inr ⟨t.at', eq2, by omega⟩
  · refine iff_ rfl (nilc (h.rdI 0 ?_))
    rw [ew]
    refine ifd (fun hlt => ?_) fun hge => ?_
    · refine nilc (h.rdI 0 (leti ew ⟨_, by omega, V', _, rfl, hV', .inr ⟨rfl, n0, rfl, ⟨t, ht, hn0⟩, fun x hx => ?_⟩, h⟩))
      rcases hall x hx with hx | ⟨a, ea, hle⟩
      · rcases mem hx with hx | rfl
        · exact .inl hx
        · exact .inr ⟨t.at', eq2, by omega⟩
      · exact .inr ⟨a, ea, by omega⟩
    · refine ⟨_, by omega, V', _, rfl, hV', .inr ⟨rfl, n, rfl, hex, fun x hx => ?_⟩, h⟩
      rcases hall x hx with hx | ⟨a, ea, hle⟩
      · rcases mem hx with hx | rfl
        · exact .inl hx
        · exact .inr ⟨t.at', eq2, by omega⟩
      · exact .inr ⟨a, ea, hle⟩
end
end Go.Br
