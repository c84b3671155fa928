/- Maps with whole numbers as keys: what is found behind a change; what a wheel's maps say. -/
import Derived.Test.YtccmlfekmmeloaaBrMap
import Derived.Test.YtccmlfekmmeloaaWheelPure
set_option linter.unusedVariables false
set_option linter.unusedSimpArgs false
set_option linter.unnecessarySimpa false
namespace Go.Br
open Go
attribute [local irreducible] Addr.add RD RDS RUN RUNU NILC LETB CALL CALLX CALLV

theorem mgo_none {k : Int} : ∀ {E : List (Int × Value)} {i : Nat}, mgo k E i = none ↔ ∀ q ∈ E, q.1 ≠ k
  | [], i => by simp [mgo]
  | q :: E, i => by
    unfold mgo
    by_cases h : q.1 = k
    · simp [h]
    · rw [if_neg h, mgo_none]; simp [h]
theorem mgo_first {k : Int} : ∀ {E : List (Int × Value)} {i j : Nat} {v : Value}, mgo k E i = some (j, v) → ∃ A B, E = A ++ (k, v) :: B ∧ j = i + A.length ∧ ∀ q ∈ A, q.1 ≠ k
  | [], i, j, v, h => by simp [mgo] at h
  | q :: E, i, j, v, h => by
    unfold mgo at h
    split at h
    · rename_i hq
      simp at h
      obtain ⟨rfl, rfl⟩ := h
      subst hq
      exact ⟨[], E, rfl, rfl, by simp⟩
    · rename_i hq
      obtain ⟨A, B, rfl, rfl, hA⟩ := mgo_first h
      exact ⟨q :: A, B, rfl, by simp; omega, fun x hx => by
        simp only [List.mem_cons] at hx
        rcases hx with rfl | hx
        · exact hq
        · exact hA x hx⟩
theorem mgo_app {k : Int} : ∀ {A B : List (Int × Value)} {i : Nat}, (∀ q ∈ A, q.1 ≠ k) → mgo k (A ++ B) i = mgo k B (i + A.length)
  | [], B, i, _ => rfl
  | q :: A, B, i, h => by
    rw [List.cons_append, show mgo k (q :: (A ++ B)) i = if q.1 = k then some (i, q.2) else mgo k (A ++ B) (i + 1) from rfl, if_neg (h q (by simp)), mgo_app fun x hx => h x (by simp [hx]), List.length_cons, show i + 1 + A.length = i + (A.length + 1) by omega]
theorem mget_none {E : List (Int × Value)} {k : Int} : mget E k = none ↔ ∀ q ∈ E, q.1 ≠ k := by unfold mget; rw [Option.map_eq_none_iff, mgo_none]
theorem mgo_val {k : Int} : ∀ {E : List (Int × Value)} {i j : Nat}, (mgo k E i).map (·.2) = (mgo k E j).map (·.2)
  | [], i, j => rfl
  | q :: E, i, j => by
    unfold mgo
    by_cases h : q.1 = k
    · simp [h]
    · rw [if_neg h, if_neg h]; exact mgo_val
theorem mget_app_ne {A B : List (Int × Value)} {k : Int} (h : ∀ q ∈ A, q.1 ≠ k) : mget (A ++ B) k = mget B k := by
  unfold mget
  rw [mgo_app h]
  exact mgo_val
theorem mget_cons (q : Int × Value) (E : List (Int × Value)) (k : Int) : mget (q :: E) k = if q.1 = k then some q.2 else mget E k := by
  unfold mget
  rw [show mgo k (q :: E) 0 = if q.1 = k then some (0, q.2) else mgo k E (0 + 1) from rfl]
  by_cases h : q.1 = k
  · simp [h]
  · rw [if_neg h, if_neg h]; exact mgo_val
theorem mget_append (A B : List (Int × Value)) (k : Int) : mget (A ++ B) k = match mget A k with | some v => some v | none => mget B k := by
  induction A with
  | nil => rfl
  | cons q A ih =>
    rw [List.cons_append, mget_cons, mget_cons, ih]
    by_cases h : q.1 = k
    · simp [h]
    · simp [h]
def KN (E : List (Int × Value)) : Prop := (E.map (·.1)).Nodup
theorem mget_mput (E : List (Int × Value)) (k : Int) (v : Value) (k' : Int) : mget (mput E k v) k' = if k' = k then some v else mget E k' := by
  unfold mput
  cases h : mgo k E 0 with
  | none =>
    have hn := mgo_none.1 h
    show mget (E ++ [(k, v)]) k' = _
    rw [mget_append]
    by_cases e : k' = k
    · subst e
      rw [if_pos rfl, mget_none.2 hn, mget_cons]; simp
    · rw [if_neg e]
      have : mget [(k, v)] k' = none := by rw [mget_cons, if_neg (fun h => e h.symm)]; rfl
      rw [this]
      cases mget E k' <;> rfl
  | some q =>
    obtain ⟨j, u⟩ := q
    obtain ⟨A, B, rfl, rfl, hA⟩ := mgo_first h
    show mget ((A ++ (k, u) :: B).set (0 + A.length) (k, v)) k' = _
    rw [Nat.zero_add, List.set_append_right _ _ (Nat.le_refl _), Nat.sub_self, List.set_cons_zero, mget_append, mget_append, mget_cons, mget_cons]
    by_cases e : k' = k
    · subst e
      rw [mget_none.2 hA]; simp
    · have : ¬ k = k' := fun h => e h.symm
      simp [this, e]
theorem KN.mput {E : List (Int × Value)} (h : KN E) (k : Int) (v : Value) : KN (mput E k v) := by
  unfold Br.mput
  cases hg : mgo k E 0 with
  | none =>
    have hn := mgo_none.1 hg
    show KN (E ++ [(k, v)])
    unfold KN at *
    rw [List.map_append, List.nodup_append]
    exact ⟨h, by simp, fun x hx y hy e => by
      simp at hy
      subst hy
      subst e
      obtain ⟨q, hq, e⟩ := List.mem_map.1 hx
      exact hn q hq e⟩
  | some q =>
    obtain ⟨j, u⟩ := q
    obtain ⟨A, B, rfl, rfl, hA⟩ := mgo_first hg
    show KN ((A ++ (k, u) :: B).set (0 + A.length) (k, v))
    rw [Nat.zero_add, List.set_append_right _ _ (Nat.le_refl _), Nat.sub_self, List.set_cons_zero]
    unfold KN at *
    simpa using h
theorem KN.mdel {E : List (Int × Value)} (h : KN E) (k : Int) : KN (mdel E k) ∧ ∀ k', mget (mdel E k) k' = if k' = k then none else mget E k' := by
  unfold Br.mdel
  cases hg : mgo k E 0 with
  | none =>
    refine ⟨h, fun k' => ?_⟩
    show mget E k' = _
    by_cases e : k' = k
    · subst e; rw [if_pos rfl, mget_none.2 (mgo_none.1 hg)]
    · rw [if_neg e]
  | some q =>
    obtain ⟨j, u⟩ := q
    obtain ⟨A, B, rfl, rfl, hA⟩ := mgo_first hg
    show KN ((A ++ (k, u) :: B).eraseIdx (0 + A.length)) ∧ ∀ k', mget ((A ++ (k, u) :: B).eraseIdx (0 + A.length)) k' = _
    rw [Nat.zero_add, List.eraseIdx_append_of_length_le (Nat.le_refl _), Nat.sub_self, List.eraseIdx_cons_zero]
    unfold KN at *
    rw [List.map_append, List.map_cons, List.nodup_append] at h
    obtain ⟨h1, h2, h3⟩ := h
    rw [List.nodup_cons] at h2
    refine ⟨by rw [List.map_append, List.nodup_append]; exact ⟨h1, h2.2, fun x hx y hy => h3 x hx y (by simp [hy])⟩, fun k' => ?_⟩
    rw [mget_append, mget_append, mget_cons]
    by_cases e : k' = k
    · subst e
      rw [mget_none.2 hA, if_pos rfl]
      refine mget_none.2 fun q hq e => h2.1 ?_
      exact List.mem_map.2 ⟨q, hq, e⟩
    · have : ¬ k = k' := fun h => e h.symm
      simp [this, e]
/-- What the map of places says of a place. -/
def plI (i : Nat) : Value := .agg #[.int .i64 ((i / 16 : Nat) : Int), .int .i64 ((i % 16 : Nat) : Int)]
def mputs (now : Nat) (l : List Tm) (E : List (Int × Value)) : List (Int × Value) := l.foldl (fun E t => mput E t.id (plI (plc now t.at'))) E
def DS (E : List (Int × Value)) (S : List (List Tm)) : Prop := Stand (fun i t => mget E t.id = some (plI i)) S
theorem DS.put {E : List (Int × Value)} {S : List (List Tm)} {now : Nat} {t : Tm} (h : DS E S) (hid : ∀ u ∈ S.flatten, u.id ≠ t.id) : DS (mput E t.id (plI (plc now t.at'))) (putS now S t) := by
  refine Stand.put (fun i l hl u hu => ?_) (by rw [mget_mput, if_pos rfl])
  rw [mget_mput, if_neg (hid u (List.mem_flatten.2 ⟨l, List.mem_of_getElem? hl, hu⟩))]
  exact h i l hl u hu
theorem DS.puts {now : Nat} : ∀ {l : List Tm} {E : List (Int × Value)} {S : List (List Tm)}, S.length = 64 → DS E S → ((l ++ S.flatten).map Tm.id).Nodup → DS (mputs now l E) (l.foldl (putS now) S)
  | [], E, S, _, h, _ => h
  | t :: l, E, S, hS, h, hd => by
    unfold mputs
    rw [List.foldl_cons, List.foldl_cons]
    rw [List.cons_append, List.map_cons, List.nodup_cons] at hd
    refine DS.puts (by rw [putS_length, hS]) (h.put fun u hu e => hd.1 ?_) ?_
    · rw [← e]
      exact List.mem_map.2 ⟨u, by simp [List.mem_append, hu], rfl⟩
    · have hp : (l ++ (putS now S t).flatten).Perm (t :: (l ++ S.flatten)) := (List.Perm.append_left l (putS_perm hS)).trans List.perm_middle
      rw [(hp.map Tm.id).nodup_iff, List.map_cons, List.nodup_cons]
      exact hd
theorem DS.turn {E : List (Int × Value)} {S : List (List Tm)} {now i : Nat} (hS : S.length = 64) (hi : i < 64) (h : DS E S) (hd : (S.flatten.map Tm.id).Nodup) : DS (mputs now (S.getD i []) E) (turnS now S i) := by
  unfold turnS
  refine DS.puts (by rw [List.length_set]; exact hS) (fun j l hl u hu => ?_) ?_
  · rw [List.getElem?_set] at hl
    split at hl
    · split at hl
      · simp at hl; subst hl; simp at hu
      · cases hl
    · exact h j l hl u hu
  · rw [((set_perm (S := S) (i := i) (by omega)).map Tm.id).nodup_iff]
    exact hd
theorem mputs_none {now : Nat} : ∀ {l : List Tm} {E : List (Int × Value)} {k : Int}, (∀ t ∈ l, t.id ≠ k) → mget (mputs now l E) k = mget E k
  | [], E, k, _ => rfl
  | t :: l, E, k, h => by
    unfold mputs
    rw [List.foldl_cons]
    refine (mputs_none fun u hu => h u (by simp [hu])).trans ?_
    rw [mget_mput, if_neg (fun e => h t (by simp) e.symm)]
theorem mputs_kn {now : Nat} : ∀ {l : List Tm} {E : List (Int × Value)}, KN E → KN (mputs now l E)
  | [], E, h => h
  | t :: l, E, h => by
    unfold mputs
    rw [List.foldl_cons]
    exact mputs_kn (h.mput _ _)
end Go.Br
