/- Maps with whole numbers as keys, as pieces. -/
import Derived.Test.YtmdkhgibipojcaaGreatBrOwn
import Derived.Maps.RangeRun
set_option linter.unusedVariables false
set_option linter.unusedSimpArgs false
namespace Go.Br
open Go
attribute [local semireducible] RUNA

/-- What a map says of a key: the place and the value. -/
def mgo (k : Int) : List (Int × Value) → Nat → Option (Nat × Value)
  | [], _ => none
  | p :: E, i => if p.1 = k then some (i, p.2) else mgo k E (i + 1)
def mget (E : List (Int × Value)) (k : Int) : Option Value := (mgo k E 0).map (·.2)
def mput (E : List (Int × Value)) (k : Int) (v : Value) : List (Int × Value) := match mgo k E 0 with
  | some (i, _) => E.set i (k, v)
  | none => E ++ [(k, v)]
def mdel (E : List (Int × Value)) (k : Int) : List (Int × Value) := match mgo k E 0 with
  | some (i, _) => E.eraseIdx i
  | none => E
theorem mgo_at {k : Int} : ∀ {E : List (Int × Value)} {i j : Nat} {v : Value}, mgo k E i = some (j, v) → i ≤ j ∧ E[j - i]? = some (k, v)
  | p :: E, i, j, v, h => by
    unfold mgo at h
    split at h
    · rename_i hp
      simp at h
      obtain ⟨rfl, rfl⟩ := h
      subst hp
      simp
    · obtain ⟨h1, h2⟩ := mgo_at h
      refine ⟨by omega, ?_⟩
      rw [show j - i = j - (i + 1) + 1 by omega]
      simpa using h2
/-- The entries of a map. -/
def Stamps (es : Array MapEntry) (clock : Nat) : Prop := (es.toList.map MapEntry.born).Nodup ∧ ∀ x ∈ es.toList, x.born < clock
def isMap (E : List (Int × Value)) (r : Nat) (w : World) : Prop := ∃ es clock, w.heap[r]? = some (.map es clock) ∧ es.toList.map (fun e => (e.key, e.val)) = (E.map fun p => (Value.int .i64 p.1, p.2)) ∧ Stamps es clock
def mp (r : Nat) (E : List (Int × Value)) : SA := held [r] (isMap E r)
theorem isMap.held {E : List (Int × Value)} {r : Nat} {w : World} (h : isMap E r w) : (mp r E).p [r] [] w := by
  obtain ⟨es, clock, h1, h2, h4⟩ := h
  refine held_mk (fun i hi => ?_) fun w' e => ⟨es, clock, (e r (by simp)).trans h1, h2, h4⟩
  simp at hi
  subst hi
  exact (Array.getElem?_eq_some_iff.1 h1).1
theorem findNow_int {k : Int} : ∀ {es : List MapEntry} {E : List (Int × Value)} {i : Nat}, es.map (fun e => (e.key, e.val)) = E.map (fun p => (Value.int .i64 p.1, p.2)) → Instr.findNow (.int .i64) (.int .i64 k) es i = some (mgo k E i)
  | [], [], i, _ => rfl
  | e :: es, p :: E, i, h => by
    simp only [List.map_cons, List.cons.injEq, Prod.mk.injEq] at h
    obtain ⟨⟨h1, h2⟩, h3⟩ := h
    unfold Instr.findNow mgo
    rw [h1, findNow_int h3]
    by_cases hp : p.1 = k
    · subst hp
      simp [Instr.sameNow, h2]
    · have hb : (k == p.1) = false := by simp; exact fun e => hp e.symm
      simp [Instr.sameNow, hp, hb]
theorem run_checkKey {P : Program} {kt : TypeId} (h : P.underlying kt = some (.int .i64)) (b : Bool) (n : Nat) (k : Int) (w : World) : (Instr.checkKey b (n + 1) kt (.int .i64 k)).run P w = .ok () w := by
  simp [Instr.checkKey, run_und h]
theorem run_findKey {P : Program} {kt : TypeId} (h : P.underlying kt = some (.int .i64)) {es : List MapEntry} {E : List (Int × Value)} {k : Int} (he : es.map (fun e => (e.key, e.val)) = E.map fun p => (Value.int .i64 p.1, p.2)) (w : World) : (Instr.findKey kt (.int .i64 k) es).run P w = .ok (mgo k E 0) w := by
  simp [Instr.findKey, run_und h, findNow_int he]
theorem run_getMap {P : Program} {w : World} {r : Nat} {es : Array MapEntry} {clock : Nat} (hb : w.heap[r]? = some (.map es clock)) : (getObj r).run P w = .ok (.map es clock) w := by simp [getObj, Sem.run, hb]
theorem run_setMap {P : Program} {w : World} {r : Nat} {es : Array MapEntry} {clock : Nat} (o : Obj) (hb : w.heap[r]? = some (.map es clock)) : (setObj r o).run P w = .ok () { w with heap := w.heap.setIfInBounds r o } := by simp [setObj, Sem.run, hb]
theorem setMap_kp (w : World) (r : Nat) (o : Obj) : Kp [r] w { w with heap := w.heap.setIfInBounds r o } := by
  refine ⟨rfl, rfl, rfl, by simp, fun i hi hn => ?_⟩
  have : ¬ r = i := fun e => hn (by simp [e])
  simp [Array.getElem?_setIfInBounds, this]
theorem setMap_at {w : World} {r : Nat} {es : Array MapEntry} {clock : Nat} (o : Obj) (hb : w.heap[r]? = some (.map es clock)) : (w.heap.setIfInBounds r o)[r]? = some o := by
  have := (Array.getElem?_eq_some_iff.1 hb).1
  simp [Array.getElem?_setIfInBounds, this]
theorem Stamps.push {es : Array MapEntry} {clock : Nat} (h : Stamps es clock) {k v : Value} : Stamps (es.push { key := k, val := v, born := clock }) (clock + 1) := by
  refine ⟨?_, fun x hx => ?_⟩
  · rw [Array.toList_push, List.map_append, List.nodup_append]
    refine ⟨h.1, by simp, fun a ha b hb e => ?_⟩
    simp at hb
    subst hb
    obtain ⟨x, hx, e2⟩ := List.mem_map.1 ha
    have := h.2 x hx
    omega
  · rw [Array.toList_push, List.mem_append, List.mem_singleton] at hx
    rcases hx with hx | rfl
    · have := h.2 x hx; omega
    · show clock < clock + 1
      omega
theorem Stamps.same {es es' : Array MapEntry} {clock : Nat} (h : Stamps es clock) (e : es'.toList.map MapEntry.born = es.toList.map MapEntry.born) : Stamps es' clock := by
  refine ⟨by rw [e]; exact h.1, fun x hx => ?_⟩
  have hm : x.born ∈ es.toList.map MapEntry.born := by rw [← e]; exact List.mem_map.2 ⟨x, hx, rfl⟩
  obtain ⟨y, hy, e2⟩ := List.mem_map.1 hm
  have := h.2 y hy
  omega
theorem modify_born (es : Array MapEntry) (j : Nat) {k v : Value} (f : MapEntry → MapEntry) (hf : f = fun e => { e with key := k, val := v }) : (es.modify j f).toList.map MapEntry.born = es.toList.map MapEntry.born := by
  subst hf
  refine List.ext_getElem? fun i => ?_
  rw [List.getElem?_map, List.getElem?_map, Array.getElem?_toList, Array.getElem?_toList, Array.getElem?_modify]
  split
  · cases es[i]? <;> rfl
  · rfl
theorem Stamps.erase {es : Array MapEntry} {clock j : Nat} (h : Stamps es clock) : Stamps (es.eraseIdxIfInBounds j) clock := by
  have hsub : (es.eraseIdxIfInBounds j).toList.Sublist es.toList := by
    rw [Array.toList_eraseIdxIfInBounds]
    exact List.eraseIdx_sublist _ _
  exact ⟨(hsub.map MapEntry.born).nodup h.1, fun x hx => h.2 x (hsub.subset hx)⟩
section
variable {c : Ctx} {w : World} {L R : List SA} {P : Program} {r : Nat} {E : List (Int × Value)}
theorem St.mapO (h : St c w L) (hp : Pick (mp r E) L R) : isMap E r w ∧ ∀ {w' : World} {E' : List (Int × Value)}, Kp [r] w w' → isMap E' r w' → St c w' (mp r E' :: R) := by
  have hf := (h.held hp).1
  obtain ⟨F, G, h1, h2⟩ := (h.pick hp).open
  unfold mp at h1
  rw [held_p] at h1
  obtain ⟨rfl, rfl, _, _⟩ := h1
  exact ⟨hf, fun k h' => h2 k h'.held (by simp) (by simp)⟩
theorem St.mlook {t kt e z b : TypeId} {zv : Value} {k : Int} {K : Value → Prop} (h : St c w L) (hp : Pick (mp r E) L R) (hk : K (.tuple #[(mget E k).getD zv, .bool (mget E k).isSome])) (ht : P.underlying t = some (.map kt e)) (hkt : P.underlying kt = some (.int .i64)) (hi : TI P e z b zv) :
    RD P (Instr.lookup t (.map (some r)) (.int .i64 k) true) w K := by
  obtain ⟨⟨es, clock, h1, h2, _⟩, _⟩ := h.mapO hp
  obtain ⟨i, hi1, _, _, hz⟩ := hi
  refine ⟨_, ?_, hk⟩
  have hc := run_checkKey (P := P) hkt es.isEmpty 9999 k w
  have hf := run_findKey (P := P) hkt (k := k) h2 w
  unfold mget
  simp only [Instr.lookup, Sem.run_bind, run_und ht, Result.andThen_ok, run_getMap h1, Sem.run_pure]
  rw [hc]
  simp only [Result.andThen_ok, hf]
  cases hm : mgo k E 0 with
  | none => simp [zeroValue, run_info hi1, hz]
  | some q => obtain ⟨j, v⟩ := q; simp
theorem map_erase {α β : Type} (f : α → β) : ∀ (l : List α) (i : Nat), (l.eraseIdx i).map f = (l.map f).eraseIdx i
  | [], i => rfl
  | a :: l, 0 => rfl
  | a :: l, i + 1 => by simp [map_erase f l i]
theorem map_key {es : List MapEntry} {k : Int} {j : Nat} {v : Value} (h2 : es.map (fun e => (e.key, e.val)) = E.map fun p => (Value.int .i64 p.1, p.2)) (hj : E[j]? = some (k, v)) : ∃ e, es[j]? = some e ∧ e.key = .int .i64 k ∧ e.val = v := by
  have h3 : (es.map fun e => (e.key, e.val))[j]? = some (.int .i64 k, v) := by rw [h2, List.getElem?_map, hj]; rfl
  rw [List.getElem?_map] at h3
  cases he : es[j]? with
  | none => rw [he] at h3; cases h3
  | some e =>
    rw [he] at h3
    simp at h3
    exact ⟨e, rfl, h3.1, h3.2⟩
theorem St.mput {t kt e : TypeId} {k : Int} {v : Value} {K : World → Prop} (h : St c w L) (hp : Pick (mp r E) L R) (hk : ∀ w', St c w' (mp r (Br.mput E k v) :: R) → K w') (ht : P.underlying t = some (.map kt e)) (hkt : P.underlying kt = some (.int .i64)) :
    RUNU P (Instr.mapUpdate t (.map (some r)) (.int .i64 k) v) w K := by
  obtain ⟨⟨es, clock, h1, h2, hs⟩, h3⟩ := h.mapO hp
  have hc := run_checkKey (P := P) hkt false 9999 k w
  have hf := run_findKey (P := P) hkt (k := k) h2 w
  unfold Br.mput at hk
  cases hm : mgo k E 0 with
  | none =>
    rw [hm] at hk hf
    refine RUNU.of (w' := { w with heap := w.heap.setIfInBounds r (.map (es.push { key := .int .i64 k, val := v, born := clock }) (clock + 1)) }) ?_ (hk _ (h3 (setMap_kp w r _) ⟨_, _, setMap_at _ h1, ?_, hs.push⟩))
    · simp only [Instr.mapUpdate, Sem.run_bind, run_und ht, Result.andThen_ok, run_getMap h1]
      rw [hc]
      simp only [Result.andThen_ok, hf]
      exact run_setMap _ h1
    · simp [h2]
  | some q =>
    obtain ⟨j, v0⟩ := q
    rw [hm] at hk hf
    obtain ⟨_, hj⟩ := mgo_at hm
    rw [Nat.sub_zero] at hj
    obtain ⟨en, e1, e2, e3⟩ := map_key h2 hj
    have e1' : es[j]? = some en := by rw [← Array.getElem?_toList]; exact e1
    refine RUNU.of (w' := { w with heap := w.heap.setIfInBounds r (.map (es.modify j fun e => { e with key := .int .i64 k, val := v }) clock) }) ?_ (hk _ (h3 (setMap_kp w r _) ⟨_, _, setMap_at _ h1, ?_, hs.same (modify_born _ _ _ rfl)⟩))
    · simp only [Instr.mapUpdate, Sem.run_bind, run_und ht, Result.andThen_ok, run_getMap h1]
      rw [hc]
      simp only [Result.andThen_ok, hf, e1', Option.map_some, Option.getD_some, e2]
      simp only [Instr.keyThatStays, Instr.sameBits, beq_self_eq_true, Bool.and_self, if_true, Sem.run_bind, Sem.run_pure, Result.andThen_ok]
      exact run_setMap _ h1
    · refine List.ext_getElem? fun i => ?_
      have h4 : (es.toList.map fun e => (e.key, e.val))[i]? = (E.map fun p => (Value.int .i64 p.1, p.2))[i]? := by rw [h2]
      simp only [List.getElem?_map] at h4 ⊢
      rw [List.getElem?_set]
      by_cases hij : j = i
      · subst hij
        have hl : j < E.length := (List.getElem?_eq_some_iff.1 hj).1
        simp [e1', hl]
      · simp only [hij, if_false]
        rw [← h4]
        simp [Array.getElem?_modify, hij]
theorem St.mdel {t kt e ti ty : TypeId} {k : Int} {K : World → Prop} (h : St c w L) (hp : Pick (mp r E) L R) (hk : ∀ w', St c w' (mp r (Br.mdel E k) :: R) → K w') (ht : P.underlying t = some (.map kt e)) (hkt : P.underlying kt = some (.int .i64)) :
    RUN P (Builtin.delete_ #[t, ti] ty #[.map (some r), .int .i64 k]) w fun v w' => v = .tuple #[] ∧ K w' := by
  obtain ⟨⟨es, clock, h1, h2, hs⟩, h3⟩ := h.mapO hp
  have hc := run_checkKey (P := P) hkt es.isEmpty 9999 k w
  have hf := run_findKey (P := P) hkt (k := k) h2 w
  unfold Br.mdel at hk
  cases hm : mgo k E 0 with
  | none =>
    rw [hm] at hk hf
    refine RUN.of (v := .tuple #[]) (w' := { w with heap := w.heap.setIfInBounds r (.map es clock) }) ?_ ⟨rfl, hk _ (h3 (setMap_kp w r _) ⟨_, _, setMap_at _ h1, h2, hs⟩)⟩
    simp only [Builtin.delete_, List.getElem?_toArray, List.getElem?_cons_zero, List.getElem?_cons_succ, Sem.run_bind, run_und ht, Result.andThen_ok, run_getMap h1]
    rw [hc]
    simp only [Result.andThen_ok, hf]
    simp only [Sem.run_bind, run_setMap _ h1, Result.andThen_ok, Sem.run_pure]
  | some q =>
    obtain ⟨j, v0⟩ := q
    rw [hm] at hk hf
    refine RUN.of (v := .tuple #[]) (w' := { w with heap := w.heap.setIfInBounds r (.map (es.eraseIdxIfInBounds j) clock) }) ?_ ⟨rfl, hk _ (h3 (setMap_kp w r _) ⟨_, _, setMap_at _ h1, ?_, hs.erase⟩)⟩
    · simp only [Builtin.delete_, List.getElem?_toArray, List.getElem?_cons_zero, List.getElem?_cons_succ, Sem.run_bind, run_und ht, Result.andThen_ok, run_getMap h1]
      rw [hc]
      simp only [Result.andThen_ok, hf]
      simp only [Sem.run_bind, run_setMap _ h1, Result.andThen_ok, Sem.run_pure]
    · rw [Array.toList_eraseIdxIfInBounds, map_erase, h2, map_erase]
theorem St.mkmap {t : TypeId} {K : Value → World → Prop} (h : St c w L) (hk : ∀ r w', St c w' (mp r [] :: L) → K (.map (some r)) w') : RUN P (Instr.makeMap t none) w K := by
  refine RUN.of (v := .map (some w.heap.size)) (w' := w.alloc (.map #[] 0)) rfl (hk _ _ (h.new (alloc_kp w _) (isMap.held ⟨#[], 0, ?_, rfl, by simp [Stamps]⟩) (by simp) (by simp)))
  simp only [World.alloc, Array.getElem?_push]
  simp
end
/-! ### A map that is ranged over -/
def pairs (l : List MapEntry) (V : List (Int × Value)) : Prop := l.map (fun e => (e.key, e.val)) = V.map fun p => (Value.int .i64 p.1, p.2)
/-- A map, and a round over it: what is still to come, which one is at hand. -/
def isRng (r it : Nat) (E V : List (Int × Value)) (cur : Option (Int × Value)) (w : World) : Prop :=
  ∃ es clock since seen c0, w.heap[r]? = some (.map es clock) ∧ w.heap[it]? = some (.mapIter (some r) since seen c0) ∧ pairs es.toList E ∧ Stamps es clock ∧ (∀ x ∈ es.toList, x.born < since) ∧ since ≤ c0 ∧ since ≤ clock ∧
    pairs (leftOf es seen).toList V ∧ ∀ q, cur = some q → ∃ (seen' : Array Nat) (e : MapEntry), seen = seen'.push e.born ∧ e ∈ es.toList ∧ e.key = .int .i64 q.1 ∧ e.val = q.2 ∧ c0 = clock
def mpr (r it : Nat) (E V : List (Int × Value)) (cur : Option (Int × Value)) : SA := held [r, it] (isRng r it E V cur)
theorem isRng.held {r it : Nat} {E V : List (Int × Value)} {cur : Option (Int × Value)} {w : World} (h : isRng r it E V cur w) : (mpr r it E V cur).p [r, it] [] w := by
  obtain ⟨es, clock, since, seen, c0, h1, h2, h3⟩ := h
  refine held_mk (fun i hi => ?_) fun w' e => ⟨es, clock, since, seen, c0, (e r (by simp)).trans h1, (e it (by simp)).trans h2, h3⟩
  simp at hi
  rcases hi with rfl | rfl
  · exact (Array.getElem?_eq_some_iff.1 h1).1
  · exact (Array.getElem?_eq_some_iff.1 h2).1
theorem left_perm {l : List MapEntry} {seen : Array Nat} {e : MapEntry} (hn : (l.map MapEntry.born).Nodup) (he : e ∈ l) (hs : seen.contains e.born = false) :
    (l.filter fun x => !seen.contains x.born).Perm (e :: l.filter fun x => !(seen.push e.born).contains x.born) := by
  induction l with
  | nil => cases he
  | cons a l ih =>
    rw [List.map_cons, List.nodup_cons] at hn
    have hc : ∀ x : MapEntry, (seen.push e.born).contains x.born = (seen.contains x.born || x.born == e.born) := fun x => by
      rw [Bool.eq_iff_iff]
      simp [Array.contains_iff_mem]
    rw [List.mem_cons] at he
    rcases he with rfl | he
    · rw [List.filter_cons_of_pos (by rw [hs]; rfl), List.filter_cons_of_neg (by rw [hc]; simp)]
      refine List.Perm.cons _ (List.Perm.of_eq (List.filter_congr fun x hx => ?_))
      rw [hc]
      have : (x.born == e.born) = false := by
        cases hb : x.born == e.born with
        | false => rfl
        | true => exact absurd (List.mem_map.2 ⟨x, hx, by simpa using hb⟩) hn.1
      rw [this, Bool.or_false]
    · have hne : (a.born == e.born) = false := by
        cases hb : a.born == e.born with
        | false => rfl
        | true => exact absurd (List.mem_map.2 ⟨e, he, by simpa using (beq_iff_eq.1 hb).symm⟩) hn.1
      have ih := ih hn.2 he
      by_cases ha : seen.contains a.born = true
      · rw [List.filter_cons_of_neg (by rw [ha]; simp), List.filter_cons_of_neg (by rw [hc, ha]; simp)]
        exact ih
      · have ha : seen.contains a.born = false := by simpa using ha
        rw [List.filter_cons_of_pos (by rw [ha]; rfl), List.filter_cons_of_pos (by rw [hc, ha, hne]; rfl)]
        exact (ih.cons a).trans (List.Perm.swap e a _)
def unpair (p : Value × Value) : Int × Value := ((match p.1 with | .int _ n => n | _ => 0), p.2)
theorem pairs_get {l : List MapEntry} {V : List (Int × Value)} (h : pairs l V) {e : MapEntry} (he : e ∈ l) : ∃ q, q ∈ V ∧ e.key = .int .i64 q.1 ∧ e.val = q.2 ∧ unpair (e.key, e.val) = q := by
  have hm : (e.key, e.val) ∈ V.map fun p => (Value.int .i64 p.1, p.2) := by rw [← h]; exact List.mem_map.2 ⟨e, he, rfl⟩
  obtain ⟨q, hq, e2⟩ := List.mem_map.1 hm
  injection e2 with e3 e4
  exact ⟨q, hq, e3.symm, e4.symm, by rw [← e3, ← e4]; rfl⟩
theorem pairs_un {l : List MapEntry} {V : List (Int × Value)} (h : pairs l V) : V = l.map fun e => unpair (e.key, e.val) := by
  have : (V.map fun p => (Value.int .i64 p.1, p.2)).map unpair = V := by rw [List.map_map]; exact List.map_id'' (fun p => rfl) V
  rw [← this, ← h, List.map_map]
  rfl
theorem pairs_perm {l l' : List MapEntry} {V : List (Int × Value)} {e : MapEntry} (h : pairs l V) (hp : l.Perm (e :: l')) : ∃ (q : Int × Value) (V' : List (Int × Value)), e.key = .int .i64 q.1 ∧ e.val = q.2 ∧ V.Perm (q :: V') ∧ pairs l' V' := by
  obtain ⟨q, _, e1, e2, e3⟩ := pairs_get h (hp.mem_iff.2 (by simp : e ∈ e :: l'))
  refine ⟨q, l'.map fun e => unpair (e.key, e.val), e1, e2, ?_, ?_⟩
  · have := hp.map fun e : MapEntry => unpair (e.key, e.val)
    rw [← pairs_un h, List.map_cons, e3] at this
    exact this
  · unfold pairs
    rw [List.map_map]
    refine List.map_congr_left fun x hx => ?_
    obtain ⟨q', _, f1, f2, f3⟩ := pairs_get h (hp.mem_iff.2 (by simp [hx] : x ∈ e :: l'))
    show (x.key, x.val) = (Value.int .i64 (unpair (x.key, x.val)).1, (unpair (x.key, x.val)).2)
    rw [f3, f1, f2]
section
variable {c : Ctx} {w : World} {L R : List SA} {P : Program} {r it : Nat} {E V : List (Int × Value)} {cur : Option (Int × Value)}
theorem St.mprO (h : St c w L) (hp : Pick (mpr r it E V cur) L R) : isRng r it E V cur w ∧ ∀ {w' : World} {V' : List (Int × Value)} {cur' : Option (Int × Value)}, Kp [r, it] w w' → isRng r it E V' cur' w' → St c w' (mpr r it E V' cur' :: R) := by
  have hf := (h.held hp).1
  obtain ⟨F, G, h1, h2⟩ := (h.pick hp).open
  unfold mpr at h1
  rw [held_p] at h1
  obtain ⟨rfl, rfl, _, _⟩ := h1
  exact ⟨hf, fun k h' => h2 k h'.held (by simp) (by simp)⟩
/-- A round over a map begins. -/
theorem St.mrange {t kt e : TypeId} {K : Addr → World → Prop} (h : St c w L) (hp : Pick (mp r E) L R) (hk : ∀ it w', St c w' (mpr r it E E none :: R) → K ⟨it, 0, none⟩ w') (ht : P.underlying t = some (.map kt e)) : RUNA P (Instr.range t (.map (some r))) w K := by
  have hf := (h.held hp).1
  obtain ⟨es, clock, h1, h2, h3⟩ := hf
  obtain ⟨F, G, g1, g2⟩ := (h.pick hp).open
  unfold mp at g1
  rw [held_p] at g1
  obtain ⟨rfl, rfl, _, _⟩ := g1
  refine ⟨.pointer (some ⟨w.heap.size, 0, none⟩), w.alloc (.mapIter (some r) clock #[] clock), ?_, _, rfl, hk w.heap.size _ ?_⟩
  · simp only [Instr.range, Sem.run_bind, run_und ht, Result.andThen_ok, run_getMap h1, Sem.run_pure]
    rfl
  · have hlt : r < w.heap.size := (Array.getElem?_eq_some_iff.1 h1).1
    refine g2 ((alloc_kp w _).mono (by simp)) (isRng.held ⟨es, clock, clock, #[], clock, ?_, ?_, h2, h3, h3.2, Nat.le_refl _, Nat.le_refl _, ?_, fun q hq => by cases hq⟩) ?_ (by simp)
    · rw [← h1]
      exact (alloc_kp w _).block r hlt (by simp)
    · simp only [World.alloc, Array.getElem?_push]
      simp
    · unfold leftOf
      have : es.filter (fun e => !(#[] : Array Nat).contains e.born) = es := Array.filter_eq_self.2 (fun x hx => by simp)
      rw [this]
      exact h2
    · intro i hi
      simp at hi
      rcases hi with rfl | rfl
      · exact .inl (by simp)
      · exact .inr (by omega)
/-- A step of a round: none is left, or some one of those that are. -/
theorem St.mnext {ty : TypeId} {K : Value → World → Prop} (h : St c w L) (hp : Pick (mpr r it E V cur) L R) (h0 : ∀ w', V = [] → St c w' (mpr r it E V none :: R) → K (.tuple #[.bool false]) w')
    (h1 : ∀ q V' w', V.Perm (q :: V') → St c w' (mpr r it E V' (some q) :: R) → K (.tuple #[.bool true, .int .i64 q.1, q.2]) w') : RUN P (Instr.next (.pointer (some ⟨it, 0, none⟩)) false ty) w K := by
  obtain ⟨⟨es, clock, since, seen, c0, g1, g2, g3, g4, g5, g6, g9, g7, g8⟩, k⟩ := h.mprO hp
  rcases run_next_at (P := P) w ty it r since c0 seen es clock g2 g1 g5 g6 with ⟨hz, hr⟩ | ⟨e, he, w1, hw1, hr⟩
  · have hV : V = [] := by
      have hn : (leftOf es seen).toList = [] := List.length_eq_zero_iff.1 (by simpa using hz)
      have := congrArg List.length g7
      rw [List.length_map, List.length_map, hn] at this
      exact List.length_eq_zero_iff.1 this.symm
    exact ⟨_, _, hr, h0 w hV (k ((Kp.refl w).mono (by simp)) ⟨es, clock, since, seen, c0, g1, g2, g3, g4, g5, g6, g9, g7, fun q hq => by cases hq⟩)⟩
  · have hel : e ∈ es.toList ∧ seen.contains e.born = false := by
      unfold leftOf at he
      rw [Array.toList_filter, List.mem_filter] at he
      exact ⟨he.1, by simpa using he.2⟩
    have hl : (leftOf es seen).toList.Perm (e :: (leftOf es (seen.push e.born)).toList) := by
      unfold leftOf
      rw [Array.toList_filter, Array.toList_filter]
      exact left_perm g4.1 hel.1 hel.2
    obtain ⟨q, V', e1, e2, hV, hp'⟩ := pairs_perm g7 hl
    rw [e1, e2] at hr
    have hh : ∀ i : Nat, w1.heap[i]? = w.heap[i]? := fun i => by
      cases hw1 with
      | inl h => rw [h]
      | inr h => rw [h]; rfl
    have hk1 : Kp [r, it] w w1 := by
      cases hw1 with
      | inl h => rw [h]; exact (Kp.refl w).mono (by simp)
      | inr h => rw [h]; exact ⟨rfl, rfl, rfl, Nat.le_refl _, fun i _ _ => rfl⟩
    have hit : it < w1.heap.size := (Array.getElem?_eq_some_iff.1 ((hh it).trans g2)).1
    have hne : it ≠ r := fun e => by rw [e, g1] at g2; cases g2
    refine ⟨_, _, hr, h1 q V' _ hV (k (hk1.then ((setMap_kp w1 it _).mono (by simp))) ⟨es, clock, since, seen.push e.born, clock, ?_, ?_, g3, g4, g5, g9, g9, hp', fun q' hq' => ?_⟩)⟩
    · simp only [ChangeMaps.setBlock, Array.getElem?_setIfInBounds, hne, if_false]
      exact (hh r).trans g1
    · simp only [ChangeMaps.setBlock, Array.getElem?_setIfInBounds, hit, if_true]
    · injection hq' with hq'
      subst hq'
      exact ⟨seen, e, rfl, hel.1, e1, e2, rfl⟩
/-- What is at hand in a round. -/
theorem St.mentry {K : Value → Prop} {q : Int × Value} (h : St c w L) (hp : Pick (mpr r it E V (some q)) L R) (hk : K (.tuple #[.int .i64 q.1, q.2])) : RD P (Instr.entry (.pointer (some ⟨it, 0, none⟩))) w K := by
  obtain ⟨⟨es, clock, since, seen, c0, g1, g2, g3, g4, g5, g6, g9, g7, g8⟩, _⟩ := h.mprO hp
  obtain ⟨seen', e, rfl, e1, e2, e3, rfl⟩ := g8 q rfl
  refine ⟨_, run_entry_at (P := P) w it r since seen' es _ e g2 g1 e1 g4.1, ?_⟩
  rw [e2, e3]
  exact hk
theorem St.mend (h : St c w (mpr r it E V cur :: R)) : St c w (mp r E :: R) := by
  refine h.enth fun F G w h => ?_
  unfold mpr at h
  rw [held_p] at h
  obtain ⟨rfl, rfl, h3, h4⟩ := h
  obtain ⟨es, clock, since, seen, c0, g1, g2, g3, g4, _⟩ := h4 w fun _ _ => rfl
  exact ⟨[r], [], isMap.held ⟨es, clock, g1, g3, g4⟩, by simp, by simp⟩
theorem RDS.of {s : Sem Value} {S : World → Prop} {K : Value → Prop} {v : Value} (h : ∀ w, S w → s.run P w = .ok v w) (hk : K v) : RDS P s S K := ⟨v, h, hk⟩
theorem St.mlookS {t kt e z b : TypeId} {zv : Value} {k : Int} {K : Value → Prop} (hp : Pick (mp r E) L R) (hk : K (.tuple #[(mget E k).getD zv, .bool (mget E k).isSome])) (ht : P.underlying t = some (.map kt e)) (hkt : P.underlying kt = some (.int .i64)) (hi : TI P e z b zv) :
    RDS P (Instr.lookup t (.map (some r)) (.int .i64 k) true) (fun w => St c w L) K :=
  RDS.of (fun w h => by
    obtain ⟨v, h1, rfl⟩ := h.mlook (K := fun v => v = (.tuple #[(mget E k).getD zv, .bool (mget E k).isSome])) hp rfl ht hkt hi
    exact h1) hk
end
end Go.Br
