/- A wheel of timers: a place is reached; a tick. -/
import Derived.Test.YtccmlfekmmeloaaNWheel2
import Derived.Test.YtccmlfekmmeloaaPdq10
import Derived.Test.YtccmlfekmmeloaaWheel
import Derived.Test.YtccmlfekmmeloaaWheelMap
set_option linter.unusedVariables false
set_option linter.unusedSimpArgs false
set_option linter.unnecessarySimpa false
namespace Go.Br
open Go
instance biWheel2a : Zro PG 167 2 16 (.agg #[.int .i64 0, .int .i64 0]) := ⟨tiOf (by kernel_rfl)⟩
attribute [local irreducible] Addr.add RD RDS RUN RUNU NILC LETB CALL CALLX CALLV

theorem sl_le {Z : List Sl} {s : Sl} (h : s ∈ Z) : s.l.length ≤ (Z.map Sl.l).flatten.length := by
  obtain ⟨A, B, rfl⟩ := List.append_of_mem h
  rw [List.map_append, List.map_cons, List.flatten_append, List.flatten_cons, List.length_append, List.length_append]
  omega
theorem sl_get {Z : List Sl} {i : Nat} {s : Sl} (h : Z[i]? = some s) : (Z.map Sl.l).getD i [] = s.l := by
  rw [List.getD_eq_getElem?_getD, List.getElem?_map, h]; rfl
theorem pick_app {A : SA} {L : List SA} : ∀ {M : List SA}, Pick A (M ++ A :: L) (M ++ L)
  | [] => .head
  | B :: M => .tail pick_app
theorem slot_adr0 (p y : Nat) : Addr.add (Addr.add (Addr.add ⟨p, 0, none⟩ 3) (Int.toNat (0 : Int) * 16)) (Int.toNat (y : Int) * 1) = Addr.add ⟨p, 0, none⟩ (3 + y) := by
  have := slot_adr p 0 y
  rw [Nat.zero_mul, Nat.zero_add] at this
  exact this
def mdels (l : List Tm) (E : List (Int × Value)) : List (Int × Value) := l.foldl (fun E t => mdel E t.id) E
theorem mdels_snoc (l : List Tm) (t : Tm) (E : List (Int × Value)) : mdels (l ++ [t]) E = mdel (mdels l E) t.id := by unfold mdels; rw [List.foldl_append]; rfl
theorem mdels_get : ∀ {l : List Tm} {E : List (Int × Value)}, KN E → KN (mdels l E) ∧ ∀ k, mget (mdels l E) k = if k ∈ l.map Tm.id then none else mget E k
  | [], E, h => ⟨h, fun k => by rfl⟩
  | t :: l, E, h => by
    obtain ⟨h1, h2⟩ := h.mdel t.id
    obtain ⟨h3, h4⟩ := mdels_get (l := l) h1
    refine ⟨h3, fun k => ?_⟩
    have : mdels (t :: l) E = mdels l (mdel E t.id) := rfl
    rw [this, h4, h2]
    by_cases e : k = t.id
    · simp [e]
    · simp [e]
/-- The wheel's memory fits what is to be done. -/
structure WI (now : Nat) (T : List Tm) (S : List (List Tm)) (E1 E2 : List (Int × Value)) : Prop where
  len : S.length = 64
  perm : S.flatten.Perm T
  stand : Stand (fun i t => i = plc now t.at') S
  ids : (T.map Tm.id).Nodup
  rng : ∀ t ∈ T, now < t.at' ∧ t.at' ≤ now + 65535
  k1 : KN E1
  k2 : KN E2
  d1 : ∀ t ∈ T, mget E1 t.id = some (.int .i64 (t.at' : Int))
  n1 : ∀ k, (∀ t ∈ T, t.id ≠ k) → mget E1 k = none
  d2 : DS E2 S
  n2 : ∀ k, (∀ t ∈ T, t.id ≠ k) → mget E2 k = none
/-- Behind the turns of a tick. -/
structure WT (now n : Nat) (D : List Nat) (T : List Tm) (S : List (List Tm)) (E2 : List (Int × Value)) : Prop where
  len : S.length = 64
  perm : S.flatten.Perm T
  stand : Stand (At now n D) S
  k2 : KN E2
  d2 : DS E2 S
  n2 : ∀ k, (∀ t ∈ T, t.id ≠ k) → mget E2 k = none
theorem WI.wt {now n : Nat} {T : List Tm} {S : List (List Tm)} {E1 E2 : List (Int × Value)} (h : WI now T S E1 E2) : WT now n [] T S E2 :=
  ⟨h.len, h.perm, fun i l hl t ht => .inr ⟨h.stand i l hl t ht, by simp⟩, h.k2, h.d2, h.n2⟩
theorem WT.turn {now n i : Nat} {D : List Nat} {T : List Tm} {S : List (List Tm)} {E2 : List (Int × Value)} (h : WT now n D T S E2) (hi : i < 64) (ids : (T.map Tm.id).Nodup) : WT now n (i :: D) T (turnS n S i) (mputs n (S.getD i []) E2) := by
  obtain ⟨p1, p2⟩ := turnS_perm (S := S) (now := n) (i := i) h.len hi
  refine ⟨p2, p1.trans h.perm, h.stand.turn, mputs_kn h.k2, h.d2.turn h.len hi (by rw [(h.perm.map Tm.id).nodup_iff]; exact ids), fun k hk => ?_⟩
  rw [mputs_none fun t ht => hk t (h.perm.mem_iff.1 ?_)]
  · exact h.n2 k hk
  · exact (set_perm (S := S) (i := i) (by rw [h.len]; exact hi)).mem_iff.1 (List.mem_append_left _ ht)
theorem WI.tick {now n : Nat} {D : List Nat} {T : List Tm} {S S' : List (List Tm)} {E1 E2 E2' : List (Int × Value)} (h : WI now T S E1 E2) (hn : n = now + 1) (h' : WT now n D T S' E2') (d1 : n % 16 = 0 → 16 + n / 16 % 16 ∈ D) (d2 : n % 256 = 0 → 32 + n / 256 % 16 ∈ D) (d3 : n % 4096 = 0 → 48 + n / 4096 % 16 ∈ D) :
    (S'.getD (n % 16) []).Perm (T.filter fun t => t.at' == n) ∧ WI n (T.filter fun t => !(t.at' == n)) (S'.set (n % 16) []) (mdels (S'.getD (n % 16) []) E1) (mdels (S'.getD (n % 16) []) E2') := by
  have hst : Stand (fun i t => i = plc n t.at') S' := h'.stand.all hn (fun t ht => h.rng t (h'.perm.mem_iff.1 ht)) d1 d2 d3
  have hS := h'.len
  have hmem : ∀ {t}, t ∈ S'.flatten → n ≤ t.at' ∧ t.at' ≤ now + 65535 := fun {t} ht => by
    have := h.rng t (h'.perm.mem_iff.1 ht); omega
  have hp := (set_perm (S := S') (i := n % 16) (by omega)).trans h'.perm
  obtain ⟨l0, hl0⟩ := ex_get (L := S') (j := n % 16) (by omega)
  have el : S'.getD (n % 16) [] = l0 := by rw [List.getD_eq_getElem?_getD, hl0]; rfl
  have hA : ∀ t ∈ l0, t.at' = n := fun t ht => by
    have h1 := hst _ _ hl0 t ht
    have hm := hmem (List.mem_flatten.2 ⟨l0, List.mem_of_getElem? hl0, ht⟩)
    exact (plc_due hm.1).1 h1.symm
  have hB : ∀ t ∈ (S'.set (n % 16) []).flatten, t.at' ≠ n := fun t ht e => by
    obtain ⟨l, hl, ht⟩ := List.mem_flatten.1 ht
    obtain ⟨j, hj⟩ := List.mem_iff_getElem?.1 hl
    rw [List.getElem?_set] at hj
    split at hj
    · split at hj
      · simp at hj; subst hj; simp at ht
      · cases hj
    · rename_i hne
      have h1 : j = plc n t.at' := hst _ _ hj t ht
      have hm := hmem (List.mem_flatten.2 ⟨l, List.mem_of_getElem? hj, ht⟩)
      rw [(plc_due hm.1).2 e] at h1
      exact hne h1.symm
  rw [el] at hp ⊢
  have f1 := (hp.filter fun t => t.at' == n)
  have f2 := (hp.filter fun t => !(t.at' == n))
  rw [List.filter_append, List.filter_eq_self.2 (fun t ht => by simp [hA t ht]), List.filter_eq_nil_iff.2 (fun t ht => by simp [hB t ht]), List.append_nil] at f1
  rw [List.filter_append, List.filter_eq_nil_iff.2 (fun t ht => by simp [hA t ht]), List.filter_eq_self.2 (fun t ht => by simp [hB t ht]), List.nil_append] at f2
  have fm : ∀ {t}, t ∈ T.filter (fun t => !(t.at' == n)) → t ∈ T ∧ t.at' ≠ n := fun {t} ht => by simpa using List.mem_filter.1 ht
  have hid : ∀ {t}, t ∈ T → t.at' ≠ n → t.id ∉ l0.map Tm.id := fun {t} ht hne hm => by
    have hnd : ((l0 ++ (S'.set (n % 16) []).flatten).map Tm.id).Nodup := by rw [(hp.map Tm.id).nodup_iff]; exact h.ids
    rw [List.map_append, List.nodup_append] at hnd
    have ht2 : t ∈ l0 ++ (S'.set (n % 16) []).flatten := hp.mem_iff.2 ht
    rw [List.mem_append] at ht2
    rcases ht2 with ht2 | ht2
    · exact hne (hA t ht2)
    · exact hnd.2.2 _ hm _ (List.mem_map.2 ⟨t, ht2, rfl⟩) rfl
  obtain ⟨q1, q2⟩ := mdels_get (l := l0) h.k1
  obtain ⟨q3, q4⟩ := mdels_get (l := l0) h'.k2
  refine ⟨f1, ⟨by rw [List.length_set]; exact hS, f2, fun j l hl t ht => ?_, ?_, fun t ht => ?_, q1, q3, fun t ht => ?_, fun k hk => ?_, fun j l hl t ht => ?_, fun k hk => ?_⟩⟩
  · rw [List.getElem?_set] at hl
    split at hl
    · split at hl
      · simp at hl; subst hl; simp at ht
      · cases hl
    · exact hst j l hl t ht
  · exact (List.filter_sublist.map Tm.id).nodup h.ids
  · have h1 := fm ht
    have h2 := h.rng t h1.1
    omega
  · have h1 := fm ht
    rw [q2, if_neg (hid h1.1 h1.2)]
    exact h.d1 t h1.1
  · rw [q2]
    split
    · rfl
    · rename_i hk2
      refine h.n1 k fun t ht e => ?_
      by_cases e2 : t.at' = n
      · refine hk2 (List.mem_map.2 ⟨t, f1.mem_iff.2 ?_, e⟩)
        simp [ht, e2]
      · exact hk t (by simp [ht, e2]) e
  · rw [List.getElem?_set] at hl
    split at hl
    · split at hl
      · simp at hl; subst hl; simp at ht
      · cases hl
    · rename_i hne
      rw [q4, if_neg]
      · exact h'.d2 j l hl t ht
      · have hm : t ∈ S'.flatten := List.mem_flatten.2 ⟨l, List.mem_of_getElem? hl, ht⟩
        refine hid (h'.perm.mem_iff.1 hm) fun e => ?_
        have h1 : j = plc n t.at' := hst _ _ hl t ht
        rw [(plc_due (hmem hm).1).2 e] at h1
        exact hne h1.symm
  · rw [q4]
    split
    · rfl
    · rename_i hk2
      refine h'.n2 k fun t ht e => ?_
      by_cases e2 : t.at' = n
      · refine hk2 (List.mem_map.2 ⟨t, f1.mem_iff.2 ?_, e⟩)
        simp [ht, e2]
      · exact hk t (by simp [ht, e2]) e
section
variable {c : Ctx} {w : World} {L R : List SA} {p r1 r2 : Nat} {now : Nat} {most many : Int} {Z : List Sl} {E1 E2 : List (Int × Value)}
theorem St.detach {X Y V : SA} {i : Nat} {s : Sl} (h : St c w (X :: Y :: V :: (Z.map slo ++ L))) (hs : Z[i]? = some s) : St c w (X :: Y :: V :: ((Z.set i Sl.nil).map slo ++ slo s :: L)) := by
  have h := h.pick (.tail (.tail (.tail (pick_sl hs))))
  have h := h.back (.tail (.tail (.tail (pick_app (A := slo s) (M := (Z.eraseIdx i).map slo) (L := L)))))
  have h := h.addOwnNil 167 2
  have hp := pick_sl (L := slo s :: L) (set_get (Z := Z) (i := i) (s := Sl.nil) (List.getElem?_eq_some_iff.1 hs).1)
  rw [set_erase] at hp
  exact h.back (.tail (.tail (.tail hp)))
theorem turn_ok (h : St c w (wl p r1 r2 now most many Z E1 E2 L)) (hZ : Z.length = 64) {r s : Nat} (hr : r < 4) (hs : s < 16) (hn : now ≤ 1000000000000) (hb : (Z.map Sl.l).flatten.length ≤ 50000) (ha : ∀ t ∈ (Z.map Sl.l).flatten, t.at' ≤ 1000000000000) {Q : Value → World → Prop}
    (hk : ∀ w' Z', Z'.length = 64 → Z'.map Sl.l = turnS now (Z.map Sl.l) (r * 16 + s) → St c w' (wl p r1 r2 now most many Z' E1 (mputs now ((Z.map Sl.l).getD (r * 16 + s) []) E2) L) → Q (.tuple #[]) w') :
    CALL PG 97 [.pointer (some ⟨p, 0, none⟩), .int .i64 (r : Int), .int .i64 (s : Int)] w Q := by
  refine call97 ?_
  unfold N97
  obtain ⟨z, hz⟩ := ex_get (L := Z) (j := r * 16 + s) (by omega)
  have ez := sl_get hz
  have hzm := List.mem_of_getElem? hz
  have hzl := sl_le hzm
  have hzt : ∀ t ∈ z.l, t.at' ≤ 1000000000000 := fun t ht => ha t (List.mem_flatten.2 ⟨z.l, List.mem_map.2 ⟨z, hzm, rfl⟩, ht⟩)
  have hsp := set_perm (S := Z.map Sl.l) (i := r * 16 + s) (by rw [List.length_map]; omega)
  rw [ez] at hsp hk
  refine nilc ⟨by omega, by omega, ?_⟩
  rw [slot_adr]
  refine h.rdL (3 + (r * 16 + s)) ?_ (hp := .head) (hv := wc_get hz)
  refine nilc ⟨by omega, by omega, ?_⟩
  rw [slot_adr]
  refine h.st (3 + (r * 16 + s)) (fun w' h => ?_) (hp := .head) (ho := by rw [wc_length]; omega)
  rw [show (Value.slice none 0 0) = .slice Sl.nil.A Sl.nil.l.length Sl.nil.k from rfl, wc_set (by omega)] at h
  have h := h.detach hz
  refine ⟨fun m x w' => ∃ (j : Nat) (Z' : List Sl), x = j ∧ m = z.l.length - j ∧ j ≤ z.l.length ∧ Z'.length = 64 ∧ Z'.map Sl.l = (z.l.take j).foldl (putS now) ((Z.map Sl.l).set (r * 16 + s) []) ∧ St c w' (wl p r1 r2 now most many Z' E1 (mputs now (z.l.take j) E2) (slo z :: L)),
    ⟨_, 0, Z.set (r * 16 + s) Sl.nil, rfl, rfl, by omega, by rw [List.length_set]; exact hZ, by rw [List.map_set]; rfl, h⟩, ?_⟩
  clear h
  rintro m _ w' ⟨j, Z', rfl, rfl, hj, hZ', eZ', h⟩
  refine ifd (fun hlt => ?_) fun hge => ?_
  rotate_left
  · have ej : j = z.l.length := by omega
    rw [ej, List.take_length] at eZ' h
    refine hk w' Z' hZ' (by unfold turnS; rw [ez]; exact eZ') ?_
    have h := (h.pick (.tail (.tail (.tail pick_app)))).drop
    exact h
  obtain ⟨t, ht⟩ := ex_get (L := z.l) (j := j) (by omega)
  have hr : RdIn (wl p r1 r2 now most many Z' E1 (mputs now (z.l.take j) E2) (slo z :: L)) z.A (z.l.flatMap tm) := RdIn.own (.tail (.tail (.tail pick_app)))
  refine h.ix (z := 1) hr ht fun b hb => ?_
  have hr1 := hr
  rw [hb] at hr1
  refine h.rdEG hr1 ht ?_
  (repeat (first | apply Exists.intro (α := Int) | apply Exists.intro (α := Bool) | apply Exists.intro (α := ByteArray) | (apply Exists.intro (α := Option Addr); apply Exists.intro (α := Nat); apply Exists.intro (α := Nat)) | apply Exists.intro (α := Option Addr) | apply Exists.intro (α := Value)))
  refine ⟨rfl, ?_⟩
  refine h.allocZ fun q w' h => ?_
  refine h.stG fun w' h => ?_
  refine h.rdG ?_
  (repeat (first | apply Exists.intro (α := Int) | apply Exists.intro (α := Bool) | apply Exists.intro (α := ByteArray) | (apply Exists.intro (α := Option Addr); apply Exists.intro (α := Nat); apply Exists.intro (α := Nat)) | apply Exists.intro (α := Option Addr) | apply Exists.intro (α := Value)))
  refine ⟨rfl, ?_⟩
  have h := h.drop
  have hfl : (Z'.map Sl.l).flatten.length ≤ 50000 := by
    rw [eZ', (puts_perm (now := now) (z.l.take j) (S := (Z.map Sl.l).set (r * 16 + s) []) (by rw [List.length_set, List.length_map]; exact hZ)).1.length_eq, List.length_append, List.length_take]
    have := hsp.length_eq
    rw [List.length_append] at this
    omega
  refine put_ok h hZ' hn (hzt t (List.mem_of_getElem? ht)) (fun s hs => by have := sl_le hs; omega) fun w' Z2 hZ2 eZ2 h => ⟨rfl, ?_⟩
  refine ⟨_, by omega, j + 1, Z2, by rw [wrap_i64 (by omega) (by omega)]; omega, rfl, by omega, hZ2, ?_, ?_⟩
  · rw [eZ2, eZ', take_snoc' ht, List.foldl_append]; rfl
  · rw [take_snoc' ht]
    unfold mputs
    rw [List.foldl_append]
    exact h
end
end Go.Br
