/- Maps with whole numbers as keys, as pieces. -/
import Derived.Test.YtccmlfekmmeloaaBrOwn
set_option linter.unusedVariables false
set_option linter.unusedSimpArgs false
namespace Go.Br
open Go

/-- What a map says of a key: the place and the value. -/
def mgo (k : Int) : List (Int × Value) → Nat → Option (Nat × Value)
  | [], _ => none
  | p :: E, i => if p.1 = k then some (i, p.2) else mgo k E (i + 1)
def mget (E : List (Int × Value)) (k : Int) : Option Value := (mgo k E 0).map (·.2)
def mput (E : List (Int × Value)) (k : Int) (v : Value) : List (Int × Value) := match mgo k E 0 with
  | some (i, _) => E.set i (k, v)
  | none => E ++ [(k, v)]
def mdel (E : List (Int × Value)) (k : Int) : List (Int × Value) := match mgo k E 0 with
  | some (i, _) => E.eraseIdx i
  | none => E
theorem mgo_at {k : Int} : ∀ {E : List (Int × Value)} {i j : Nat} {v : Value}, mgo k E i = some (j, v) → i ≤ j ∧ E[j - i]? = some (k, v)
  | p :: E, i, j, v, h => by
    unfold mgo at h
    split at h
    · rename_i hp
      simp at h
      obtain ⟨rfl, rfl⟩ := h
      subst hp
      simp
    · obtain ⟨h1, h2⟩ := mgo_at h
      refine ⟨by omega, ?_⟩
      rw [show j - i = j - (i + 1) + 1 by omega]
      simpa using h2
/-- The entries of a map. -/
def isMap (E : List (Int × Value)) (r : Nat) (w : World) : Prop := ∃ es clock, w.heap[r]? = some (.map es clock) ∧ es.toList.map (fun e => (e.key, e.val)) = E.map fun p => (Value.int .i64 p.1, p.2)
def mp (r : Nat) (E : List (Int × Value)) : SA := held [r] (isMap E r)
theorem isMap.held {E : List (Int × Value)} {r : Nat} {w : World} (h : isMap E r w) : (mp r E).p [r] [] w := by
  obtain ⟨es, clock, h1, h2⟩ := h
  refine held_mk (fun i hi => ?_) fun w' e => ⟨es, clock, (e r (by simp)).trans h1, h2⟩
  simp at hi
  subst hi
  exact (Array.getElem?_eq_some_iff.1 h1).1
theorem findNow_int {k : Int} : ∀ {es : List MapEntry} {E : List (Int × Value)} {i : Nat}, es.map (fun e => (e.key, e.val)) = E.map (fun p => (Value.int .i64 p.1, p.2)) → Instr.findNow (.int .i64) (.int .i64 k) es i = some (mgo k E i)
  | [], [], i, _ => rfl
  | e :: es, p :: E, i, h => by
    simp only [List.map_cons, List.cons.injEq, Prod.mk.injEq] at h
    obtain ⟨⟨h1, h2⟩, h3⟩ := h
    unfold Instr.findNow mgo
    rw [h1, findNow_int h3]
    by_cases hp : p.1 = k
    · subst hp
      simp [Instr.sameNow, h2]
    · have hb : (k == p.1) = false := by simp; exact fun e => hp e.symm
      simp [Instr.sameNow, hp, hb]
theorem run_checkKey {P : Program} {kt : TypeId} (h : P.underlying kt = some (.int .i64)) (b : Bool) (n : Nat) (k : Int) (w : World) : (Instr.checkKey b (n + 1) kt (.int .i64 k)).run P w = .ok () w := by
  simp [Instr.checkKey, run_und h]
theorem run_findKey {P : Program} {kt : TypeId} (h : P.underlying kt = some (.int .i64)) {es : List MapEntry} {E : List (Int × Value)} {k : Int} (he : es.map (fun e => (e.key, e.val)) = E.map fun p => (Value.int .i64 p.1, p.2)) (w : World) : (Instr.findKey kt (.int .i64 k) es).run P w = .ok (mgo k E 0) w := by
  simp [Instr.findKey, run_und h, findNow_int he]
theorem run_getMap {P : Program} {w : World} {r : Nat} {es : Array MapEntry} {clock : Nat} (hb : w.heap[r]? = some (.map es clock)) : (getObj r).run P w = .ok (.map es clock) w := by simp [getObj, Sem.run, hb]
theorem run_setMap {P : Program} {w : World} {r : Nat} {es : Array MapEntry} {clock : Nat} (o : Obj) (hb : w.heap[r]? = some (.map es clock)) : (setObj r o).run P w = .ok () { w with heap := w.heap.setIfInBounds r o } := by simp [setObj, Sem.run, hb]
theorem setMap_kp (w : World) (r : Nat) (o : Obj) : Kp [r] w { w with heap := w.heap.setIfInBounds r o } := by
  refine ⟨rfl, rfl, rfl, by simp, fun i hi hn => ?_⟩
  have : ¬ r = i := fun e => hn (by simp [e])
  simp [Array.getElem?_setIfInBounds, this]
theorem setMap_at {w : World} {r : Nat} {es : Array MapEntry} {clock : Nat} (o : Obj) (hb : w.heap[r]? = some (.map es clock)) : (w.heap.setIfInBounds r o)[r]? = some o := by
  have := (Array.getElem?_eq_some_iff.1 hb).1
  simp [Array.getElem?_setIfInBounds, this]
section
variable {c : Ctx} {w : World} {L R : List SA} {P : Program} {r : Nat} {E : List (Int × Value)}
theorem St.mapO (h : St c w L) (hp : Pick (mp r E) L R) : isMap E r w ∧ ∀ {w' : World} {E' : List (Int × Value)}, Kp [r] w w' → isMap E' r w' → St c w' (mp r E' :: R) := by
  have hf := (h.held hp).1
  obtain ⟨F, G, h1, h2⟩ := (h.pick hp).open
  unfold mp at h1
  rw [held_p] at h1
  obtain ⟨rfl, rfl, _, _⟩ := h1
  exact ⟨hf, fun k h' => h2 k h'.held (by simp) (by simp)⟩
theorem St.mlook {t kt e z b : TypeId} {zv : Value} {k : Int} {K : Value → Prop} (h : St c w L) (hp : Pick (mp r E) L R) (hk : K (.tuple #[(mget E k).getD zv, .bool (mget E k).isSome])) (ht : P.underlying t = some (.map kt e)) (hkt : P.underlying kt = some (.int .i64)) (hi : TI P e z b zv) :
    RD P (Instr.lookup t (.map (some r)) (.int .i64 k) true) w K := by
  obtain ⟨⟨es, clock, h1, h2⟩, _⟩ := h.mapO hp
  obtain ⟨i, hi1, _, _, hz⟩ := hi
  refine ⟨_, ?_, hk⟩
  have hc := run_checkKey (P := P) hkt es.isEmpty 9999 k w
  have hf := run_findKey (P := P) hkt (k := k) h2 w
  unfold mget
  simp only [Instr.lookup, Sem.run_bind, run_und ht, Result.andThen_ok, run_getMap h1, Sem.run_pure]
  rw [hc]
  simp only [Result.andThen_ok, hf]
  cases hm : mgo k E 0 with
  | none => simp [zeroValue, run_info hi1, hz]
  | some q => obtain ⟨j, v⟩ := q; simp
theorem map_erase {α β : Type} (f : α → β) : ∀ (l : List α) (i : Nat), (l.eraseIdx i).map f = (l.map f).eraseIdx i
  | [], i => rfl
  | a :: l, 0 => rfl
  | a :: l, i + 1 => by simp [map_erase f l i]
theorem map_key {es : List MapEntry} {k : Int} {j : Nat} {v : Value} (h2 : es.map (fun e => (e.key, e.val)) = E.map fun p => (Value.int .i64 p.1, p.2)) (hj : E[j]? = some (k, v)) : ∃ e, es[j]? = some e ∧ e.key = .int .i64 k ∧ e.val = v := by
  have h3 : (es.map fun e => (e.key, e.val))[j]? = some (.int .i64 k, v) := by rw [h2, List.getElem?_map, hj]; rfl
  rw [List.getElem?_map] at h3
  cases he : es[j]? with
  | none => rw [he] at h3; cases h3
  | some e =>
    rw [he] at h3
    simp at h3
    exact ⟨e, rfl, h3.1, h3.2⟩
theorem St.mput {t kt e : TypeId} {k : Int} {v : Value} {K : World → Prop} (h : St c w L) (hp : Pick (mp r E) L R) (hk : ∀ w', St c w' (mp r (Br.mput E k v) :: R) → K w') (ht : P.underlying t = some (.map kt e)) (hkt : P.underlying kt = some (.int .i64)) :
    RUNU P (Instr.mapUpdate t (.map (some r)) (.int .i64 k) v) w K := by
  obtain ⟨⟨es, clock, h1, h2⟩, h3⟩ := h.mapO hp
  have hc := run_checkKey (P := P) hkt false 9999 k w
  have hf := run_findKey (P := P) hkt (k := k) h2 w
  unfold Br.mput at hk
  cases hm : mgo k E 0 with
  | none =>
    rw [hm] at hk hf
    refine RUNU.of (w' := { w with heap := w.heap.setIfInBounds r (.map (es.push { key := .int .i64 k, val := v, born := clock }) (clock + 1)) }) ?_ (hk _ (h3 (setMap_kp w r _) ⟨_, _, setMap_at _ h1, ?_⟩))
    · simp only [Instr.mapUpdate, Sem.run_bind, run_und ht, Result.andThen_ok, run_getMap h1]
      rw [hc]
      simp only [Result.andThen_ok, hf]
      exact run_setMap _ h1
    · simp [h2]
  | some q =>
    obtain ⟨j, v0⟩ := q
    rw [hm] at hk hf
    obtain ⟨_, hj⟩ := mgo_at hm
    rw [Nat.sub_zero] at hj
    obtain ⟨en, e1, e2, e3⟩ := map_key h2 hj
    have e1' : es[j]? = some en := by rw [← Array.getElem?_toList]; exact e1
    refine RUNU.of (w' := { w with heap := w.heap.setIfInBounds r (.map (es.modify j fun e => { e with key := .int .i64 k, val := v }) clock) }) ?_ (hk _ (h3 (setMap_kp w r _) ⟨_, _, setMap_at _ h1, ?_⟩))
    · simp only [Instr.mapUpdate, Sem.run_bind, run_und ht, Result.andThen_ok, run_getMap h1]
      rw [hc]
      simp only [Result.andThen_ok, hf, e1', Option.map_some, Option.getD_some, e2]
      simp only [Instr.keyThatStays, Instr.sameBits, beq_self_eq_true, Bool.and_self, if_true, Sem.run_bind, Sem.run_pure, Result.andThen_ok]
      exact run_setMap _ h1
    · refine List.ext_getElem? fun i => ?_
      have h4 : (es.toList.map fun e => (e.key, e.val))[i]? = (E.map fun p => (Value.int .i64 p.1, p.2))[i]? := by rw [h2]
      simp only [List.getElem?_map] at h4 ⊢
      rw [List.getElem?_set]
      by_cases hij : j = i
      · subst hij
        have hl : j < E.length := (List.getElem?_eq_some_iff.1 hj).1
        simp [e1', hl]
      · simp only [hij, if_false]
        rw [← h4]
        simp [Array.getElem?_modify, hij]
theorem St.mdel {t kt e ti ty : TypeId} {k : Int} {K : World → Prop} (h : St c w L) (hp : Pick (mp r E) L R) (hk : ∀ w', St c w' (mp r (Br.mdel E k) :: R) → K w') (ht : P.underlying t = some (.map kt e)) (hkt : P.underlying kt = some (.int .i64)) :
    RUN P (Builtin.delete_ #[t, ti] ty #[.map (some r), .int .i64 k]) w fun v w' => v = .tuple #[] ∧ K w' := by
  obtain ⟨⟨es, clock, h1, h2⟩, h3⟩ := h.mapO hp
  have hc := run_checkKey (P := P) hkt es.isEmpty 9999 k w
  have hf := run_findKey (P := P) hkt (k := k) h2 w
  unfold Br.mdel at hk
  cases hm : mgo k E 0 with
  | none =>
    rw [hm] at hk hf
    refine RUN.of (v := .tuple #[]) (w' := { w with heap := w.heap.setIfInBounds r (.map es clock) }) ?_ ⟨rfl, hk _ (h3 (setMap_kp w r _) ⟨_, _, setMap_at _ h1, h2⟩)⟩
    simp only [Builtin.delete_, List.getElem?_toArray, List.getElem?_cons_zero, List.getElem?_cons_succ, Sem.run_bind, run_und ht, Result.andThen_ok, run_getMap h1]
    rw [hc]
    simp only [Result.andThen_ok, hf]
    simp only [Sem.run_bind, run_setMap _ h1, Result.andThen_ok, Sem.run_pure]
  | some q =>
    obtain ⟨j, v0⟩ := q
    rw [hm] at hk hf
    refine RUN.of (v := .tuple #[]) (w' := { w with heap := w.heap.setIfInBounds r (.map (es.eraseIdxIfInBounds j) clock) }) ?_ ⟨rfl, hk _ (h3 (setMap_kp w r _) ⟨_, _, setMap_at _ h1, ?_⟩)⟩
    · simp only [Builtin.delete_, List.getElem?_toArray, List.getElem?_cons_zero, List.getElem?_cons_succ, Sem.run_bind, run_und ht, Result.andThen_ok, run_getMap h1]
      rw [hc]
      simp only [Result.andThen_ok, hf]
      simp only [Sem.run_bind, run_setMap _ h1, Result.andThen_ok, Sem.run_pure]
    · rw [Array.toList_eraseIdxIfInBounds, map_erase, h2, map_erase]
theorem St.mkmap {t : TypeId} {K : Value → World → Prop} (h : St c w L) (hk : ∀ r w', St c w' (mp r [] :: L) → K (.map (some r)) w') : RUN P (Instr.makeMap t none) w K := by
  refine RUN.of (v := .map (some w.heap.size)) (w' := w.alloc (.map #[] 0)) rfl (hk _ _ (h.new (alloc_kp w _) (isMap.held ⟨#[], 0, ?_, rfl⟩) (by simp) (by simp)))
  simp only [World.alloc, Array.getElem?_push]
  simp
end
end Go.Br
