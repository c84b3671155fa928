/- The law of a wheel: each number comes just once. -/
import Derived.Test.YtccmlfekmmeloaaNWheelOnceLaw
import Derived.Test.YtccmlfekmmeloaaWheel3
set_option linter.unusedVariables false
set_option linter.unusedSimpArgs false
set_option linter.unnecessarySimpa false
namespace Go.Br
open Go
instance biWheelOnceLawa (x0 : Int) (x1 : Int) : Bld PG (Instr.build 167 #[(0, .int .i64 x0), (1, .int .i64 x1)]) (.agg #[.int .i64 x0, .int .i64 x1]) := ⟨fun w => by kernel_rfl⟩
attribute [local irreducible] Addr.add RD RDS RUN RUNU NILC LETB CALL CALLX CALLV

structure Op29 where
  kind : Int
  id : Int
  n : Int
def op29 (x : Op29) : List Value := [.int .i64 x.kind, .int .i64 x.id, .int .i64 x.n]
abbrev op29v (x : Op29) : Value := .agg #[.int .i64 x.kind, .int .i64 x.id, .int .i64 x.n]
theorem op29_length (x : Op29) : (op29 x).length = 3 := rfl
theorem op29_flat1 (x : Op29) : Flat (op29 x) := by intro v hv; simp [op29] at hv; rcases hv with rfl | rfl | rfl <;> rfl
theorem op29_flat (L : List Op29) : Flat (L.flatMap op29) := by
  intro v hv
  simp only [List.mem_flatMap] at hv
  obtain ⟨x, _, hx⟩ := hv
  exact op29_flat1 x v hx
theorem WI.add {now : Nat} {T : List Tm} {S : List (List Tm)} {E1 E2 : List (Int × Value)} (h : WI now T S E1 E2) {t : Tm} (hid : ∀ u ∈ T, u.id ≠ t.id) (ha : now < t.at' ∧ t.at' ≤ now + 65535) :
    WI now (T ++ [t]) (putS now S t) (mput E1 t.id (.int .i64 (t.at' : Int))) (mput E2 t.id (plI (plc now t.at'))) := by
  have hidS : ∀ u ∈ S.flatten, u.id ≠ t.id := fun u hu => hid u (h.perm.mem_iff.1 hu)
  refine ⟨by rw [putS_length]; exact h.len, (putS_perm h.len).trans ((h.perm.cons t).trans (List.perm_append_singleton t T).symm), Stand.put h.stand rfl, ?_, fun u hu => ?_, h.k1.mput _ _, h.k2.mput _ _, fun u hu => ?_, fun k hk => ?_, h.d2.put hidS, fun k hk => ?_⟩
  · rw [List.map_append, List.nodup_append]
    refine ⟨h.ids, by simp, fun x hx y hy e => ?_⟩
    simp at hy
    subst hy
    subst e
    obtain ⟨u, hu, e⟩ := List.mem_map.1 hx
    exact hid u hu e
  · simp only [List.mem_append, List.mem_singleton] at hu
    rcases hu with hu | rfl
    · exact h.rng u hu
    · exact ha
  · rw [mget_mput]
    simp only [List.mem_append, List.mem_singleton] at hu
    rcases hu with hu | rfl
    · rw [if_neg (hid u hu)]; exact h.d1 u hu
    · rw [if_pos rfl]
  · rw [mget_mput, if_neg (fun e => hk t (by simp) e.symm)]
    exact h.n1 k fun u hu => hk u (by simp [hu])
  · rw [mget_mput, if_neg (fun e => hk t (by simp) e.symm)]
    exact h.n2 k fun u hu => hk u (by simp [hu])
def nAt (l : List Op29) (j : Nat) : Int := (l.getD j ⟨0, 0, 0⟩).n
theorem nAt_get {l : List Op29} {j : Nat} {o : Op29} (h : l[j]? = some o) : nAt l j = o.n := by unfold nAt; rw [List.getD_eq_getElem?_getD, h]; rfl
section
variable {c : Ctx} {w : World} {L R : List SA} {p r1 r2 : Nat} {now : Nat} {most many : Int} {Z : List Sl} {E1 E2 : List (Int × Value)} {T : List Tm} {A : Option Addr} {k : Nat}
theorem St.dropL : ∀ {M : List SA} {w : World} {L : List SA}, St c w (M ++ L) → St c w L
  | [], w, L, h => h
  | A :: M, w, L, h => St.dropL (M := M) (St.drop h)
theorem St.noWheel {X Y V : SA} (h : St c w (X :: Y :: V :: (Z.map slo ++ L))) : St c w L := h.drop.drop.drop.dropL
theorem addF_ok (h : St c w (wl p r1 r2 now most T.length Z E1 E2 L)) (hI : WI now T (Z.map Sl.l) E1 E2) (hZ : Z.length = 64) {id : Int} {k : Nat} (hk0 : 1 ≤ k) (hk1 : k ≤ 65535) (hfr : ∀ t ∈ T, t.id ≠ id) (hm : (T.length : Int) < most) (hn : now ≤ 2147483648) (hT : T.length ≤ 5000) {Q : Value → World → Prop}
    (hk : ∀ w' Z' E1' E2', WI now (T ++ [⟨id, now + k⟩]) (Z'.map Sl.l) E1' E2' → Z'.length = 64 → St c w' (wl p r1 r2 now most (T ++ [(⟨id, now + k⟩ : Tm)]).length Z' E1' E2' L) → Q (.bool true) w') :
    CALL PG 39 [.pointer (some ⟨p, 0, none⟩), .int .i64 id, .int .i64 (k : Int)] w Q := by
  refine call39 ?_
  unfold N39
  refine ifdf (by omega) (ifdf (by omega) (nilc ?_))
  refine h.rdI 0 ?_
  refine ifdf (by omega) ?_
  refine ⟨fun w' => St c w' (wl p r1 r2 now most T.length Z E1 E2 L), ?_, ?_⟩
  · refine nilc (h.rdM 67 .head (wc_m1 hZ) ⟨_, rfl, ?_⟩)
    refine h.mlook (.tail .head) ?_ huII hu64 tiInt
    rw [hI.n1 id hfr]
    exact ⟨_, _, rfl, leti rfl (letb rfl (iff_ rfl h))⟩
  clear h
  intro w' h
  have h := h.drew
  refine nilc ?_
  refine h.rdI 2 ?_
  refine nilc ?_
  refine h.rdI 1 ?_
  refine ifdf (by omega) ?_
  refine nilc (h.rdI 2 (nilc ?_))
  refine h.st 2 fun w' h => ?_
  have h := h.drew
  have ea : IntKind.i64.wrap ((now : Int) + (k : Int)) = ((now + k : Nat) : Int) := by rw [wrap_i64 (by omega) (by omega)]; omega
  refine nilc (h.rdM 67 .head (wc_m1 hZ) ⟨_, rfl, ?_⟩)
  refine nilc (h.rdI 0 ?_)
  rw [ea]
  refine h.mput (.tail .head) (fun w' h => ?_) huII hu64
  have h := h.swap
  refine nilc (h.rdI 0 ?_)
  rw [ea]
  refine RD.bld ?_
  (repeat (first | apply Exists.intro (α := Int) | apply Exists.intro (α := Bool) | apply Exists.intro (α := ByteArray) | (apply Exists.intro (α := Option Addr); apply Exists.intro (α := Nat); apply Exists.intro (α := Nat)) | apply Exists.intro (α := Option Addr) | apply Exists.intro (α := Value)))
  refine ⟨rfl, ?_⟩
  rw [show IntKind.i64.wrap ((T.length : Int) + 1) = ((T ++ [(⟨id, now + k⟩ : Tm)]).length : Int) by rw [List.length_append, wrap_i64 (by omega) (by omega)]; simp] at h
  refine put_ok (t := ⟨id, now + k⟩) (many := ((T ++ [(⟨id, now + k⟩ : Tm)]).length : Int)) h hZ (by omega) (show now + k ≤ 1000000000000 by omega) (fun s hs => by have := sl_le hs; have := hI.perm.length_eq; omega) fun w' Z' hZ' eZ' h => ⟨rfl, ?_⟩
  have hI' := hI.add (t := ⟨id, now + k⟩) hfr ⟨show now < now + k by omega, show now + k ≤ now + 65535 by omega⟩
  rw [← eZ'] at hI'
  exact hk w' Z' _ _ hI' hZ' h
theorem alive29_ok (h : St c w L) {Q : Value → World → Prop} (hk : ∀ w', St c w' L → Q (.bool true) w') : CALL PG 42 [] w Q := by
  refine call42 ?_
  unfold N42
  refine new_okW h fun w' p r1 r2 Z hZ hI h => ?_
  (repeat (first | apply Exists.intro (α := Int) | apply Exists.intro (α := Bool) | apply Exists.intro (α := ByteArray) | (apply Exists.intro (α := Option Addr); apply Exists.intro (α := Nat); apply Exists.intro (α := Nat)) | apply Exists.intro (α := Option Addr) | apply Exists.intro (α := Value)))
  refine ⟨rfl, ?_⟩
  refine iff_ rfl ?_
  refine addF_ok (T := []) (now := 0) (k := 2) h hI hZ (by decide) (by decide) (fun t ht => by simp at ht) (by decide) (by decide) (by decide) fun w' Z E1 E2 hI hZ h => ?_
  (repeat (first | apply Exists.intro (α := Int) | apply Exists.intro (α := Bool) | apply Exists.intro (α := ByteArray) | (apply Exists.intro (α := Option Addr); apply Exists.intro (α := Nat); apply Exists.intro (α := Nat)) | apply Exists.intro (α := Option Addr) | apply Exists.intro (α := Value)))
  refine ⟨rfl, ?_⟩
  refine letb rfl ?_
  refine tick_ok h hI hZ (n := 1) rfl (by decide) (by decide) fun w' O d C Z E1 E2 hC hp hI hZ h => ?_
  have eC : C = [] := List.Perm.eq_nil (show C.Perm [] from hp)
  subst eC
  (repeat (first | apply Exists.intro (α := Int) | apply Exists.intro (α := Bool) | apply Exists.intro (α := ByteArray) | (apply Exists.intro (α := Option Addr); apply Exists.intro (α := Nat); apply Exists.intro (α := Nat)) | apply Exists.intro (α := Option Addr) | apply Exists.intro (α := Value)))
  refine ⟨rfl, ?_⟩
  have h := h.drop
  refine tick_ok (T := [⟨7, 2⟩]) (now := 1) h hI hZ (n := 2) rfl (by decide) (by decide) fun w' O d C Z E1 E2 hC hp hI hZ h => ?_
  have eC : C = [7] := List.perm_singleton.1 (show C.Perm [7] from hp)
  subst eC
  (repeat (first | apply Exists.intro (α := Int) | apply Exists.intro (α := Bool) | apply Exists.intro (α := ByteArray) | (apply Exists.intro (α := Option Addr); apply Exists.intro (α := Nat); apply Exists.intro (α := Nat)) | apply Exists.intro (α := Option Addr) | apply Exists.intro (α := Value)))
  refine ⟨rfl, ?_⟩
  refine ift rfl (ift rfl (ift rfl ?_))
  refine h.arrR (D := [7]) (i := 0) .head rfl (by decide) (ift rfl ?_)
  have h := h.drop
  refine now_okW h fun h => ?_
  (repeat (first | apply Exists.intro (α := Int) | apply Exists.intro (α := Bool) | apply Exists.intro (α := ByteArray) | (apply Exists.intro (α := Option Addr); apply Exists.intro (α := Nat); apply Exists.intro (α := Nat)) | apply Exists.intro (α := Option Addr) | apply Exists.intro (α := Value)))
  refine ⟨rfl, ?_⟩
  refine ift rfl ?_
  refine len_okW h fun h => ?_
  (repeat (first | apply Exists.intro (α := Int) | apply Exists.intro (α := Bool) | apply Exists.intro (α := ByteArray) | (apply Exists.intro (α := Option Addr); apply Exists.intro (α := Nat); apply Exists.intro (α := Nat)) | apply Exists.intro (α := Option Addr) | apply Exists.intro (α := Value)))
  refine ⟨rfl, ?_⟩
  exact ift rfl (letb rfl (hk _ h.noWheel))
/-- The timers of some rows. -/
def tms (l : List Op29) (i : Nat) : List Tm := (List.range i).map fun (j : Nat) => (⟨(j : Int), (nAt l j).toNat⟩ : Tm)
theorem filt_len {α : Type} (p : α → Bool) : ∀ l : List α, (l.filter p).length + (l.filter fun x => !(p x)).length = l.length
  | [] => rfl
  | x :: l => by
    have ih := filt_len p l
    cases h : p x <;> simp [List.filter_cons, h] <;> omega
theorem tms_succ (l : List Op29) (i : Nat) : tms l (i + 1) = tms l i ++ [⟨(i : Int), (nAt l i).toNat⟩] := by unfold tms; rw [List.range_succ, List.map_append]; rfl
theorem tms_length (l : List Op29) (i : Nat) : (tms l i).length = i := by unfold tms; simp
theorem tms_mem {l : List Op29} {i : Nat} {t : Tm} (h : t ∈ tms l i) : ∃ j, j < i ∧ t = ⟨(j : Int), (nAt l j).toNat⟩ := by
  unfold tms at h
  obtain ⟨j, hj, rfl⟩ := List.mem_map.1 h
  exact ⟨j, List.mem_range.1 hj, rfl⟩
theorem St.rdN {K : Int → Prop} {l : List Op29} (h : St c w L) (hr : RdIn L A (l.flatMap op29)) {j : Nat} (hj : j < l.length) (hk : K (nAt l j)) :
    IDX A l.length (j : Int) fun a => RDI PG (loadVar 3 (Addr.add (Addr.add a (Int.toNat (j : Int) * 3)) 2)) .i64 w K := by
  obtain ⟨o, ho⟩ := ex_get (L := l) (j := j) hj
  rw [nAt_get ho] at hk
  exact h.ix (z := 2) hr ho (fun a ha => by subst ha; exact h.rdEI 2 hr ho hk) hj
theorem once_ok (h : St c w L) {l : List Op29} (hr : RdIn L A (l.flatMap op29)) {Q : Value → World → Prop} (hk : ∀ w', St c w' L → Q (.bool true) w') : CALL PG 7 [.slice A l.length k] w Q := by
  refine call7 ?_
  unfold N7
  refine ifd (fun _ => hk _ h) fun hl => ?_
  have hl : l.length ≤ 20 := by omega
  refine new_okW h fun w' p r1 r2 Z hZ hI h => ?_
  (repeat (first | apply Exists.intro (α := Int) | apply Exists.intro (α := Bool) | apply Exists.intro (α := ByteArray) | (apply Exists.intro (α := Option Addr); apply Exists.intro (α := Nat); apply Exists.intro (α := Nat)) | apply Exists.intro (α := Option Addr) | apply Exists.intro (α := Value)))
  refine ⟨rfl, ?_⟩
  refine iff_ rfl ?_
  have hrw : ∀ {now most many Z E1 E2}, RdIn (wl p r1 r2 now most many Z E1 E2 L) A (l.flatMap op29) := fun {now most many Z E1 E2} c w h => hr c w h.noWheel
  refine ⟨fun m last x w' => ∃ (i : Nat) (Z : List Sl) (E1 E2 : List (Int × Value)), x = i ∧ m = l.length - i ∧ i ≤ l.length ∧ 0 ≤ last ∧ last ≤ 5000 ∧ (∀ j, j < i → 1 ≤ nAt l j ∧ nAt l j ≤ last) ∧ WI 0 (tms l i) (Z.map Sl.l) E1 E2 ∧ Z.length = 64 ∧ St c w' (wl p r1 r2 (0 : Nat) 64 (tms l i).length Z E1 E2 L),
    ⟨_, 0, Z, [], [], rfl, rfl, by omega, by omega, by omega, fun j hj => by omega, hI, hZ, h⟩, ?_⟩
  clear h hI hZ Z
  rintro m last _ w' ⟨i, Z, E1, E2, rfl, rfl, hi, hla0, hla, hj, hI, hZ, h⟩
  refine ifd (fun hlt => ?_) fun hge => ?_
  · have hil : i < l.length := by omega
    refine h.rdN hrw hil ?_
    refine ifd (fun _ => hk _ h.noWheel) fun h1 => ?_
    refine h.rdN hrw hil ?_
    refine ifd (fun _ => hk _ h.noWheel) fun h2 => ?_
    refine h.rdN hrw hil ?_
    obtain ⟨k, hkk⟩ : ∃ k : Nat, nAt l i = (k : Int) := ⟨(nAt l i).toNat, by omega⟩
    have hti := tms_length l i
    have et : tms l (i + 1) = tms l i ++ [⟨(i : Int), 0 + k⟩] := by rw [tms_succ, hkk]; simp
    have nx : IntKind.i64.wrap ((i : Int) + 1) = ((i + 1 : Nat) : Int) := by rw [wrap_i64 (by omega) (by omega)]; omega
    rw [hkk]
    refine addF_ok h hI hZ (k := k) (by omega) (by omega) (fun t ht => by obtain ⟨j, hj, rfl⟩ := tms_mem ht; show (j : Int) ≠ (i : Int); omega) (by omega) (by decide) (by omega) fun w' Z E1 E2 hI hZ h => ?_
    (repeat (first | apply Exists.intro (α := Int) | apply Exists.intro (α := Bool) | apply Exists.intro (α := ByteArray) | (apply Exists.intro (α := Option Addr); apply Exists.intro (α := Nat); apply Exists.intro (α := Nat)) | apply Exists.intro (α := Option Addr) | apply Exists.intro (α := Value)))
    refine ⟨rfl, ?_⟩
    rw [← et] at hI h
    refine iff_ rfl ?_
    refine h.rdN hrw hil ?_
    refine ifd (fun hgt => ?_) fun hngt => ?_
    · refine h.rdN hrw hil ?_
      refine leti rfl (leti nx ⟨_, by omega, i + 1, Z, E1, E2, rfl, rfl, by omega, by omega, by omega, fun j hj' => ?_, hI, hZ, h⟩)
      by_cases e : j = i
      · subst e; omega
      · have := hj j (by omega); omega
    · refine leti nx ⟨_, by omega, i + 1, Z, E1, E2, rfl, rfl, by omega, by omega, by omega, fun j hj' => ?_, hI, hZ, h⟩
      by_cases e : j = i
      · subst e; omega
      · exact hj j (by omega)
  have ei : i = l.length := by omega
  rw [ei] at hI h hj
  rw [tms_length] at h
  refine ⟨fun m came t w' => ∃ (now : Nat) (T : List Tm) (Z : List Sl) (E1 E2 : List (Int × Value)), t = ((now + 1 : Nat) : Int) ∧ m = last.toNat - now ∧ (now : Int) ≤ last ∧ came + (T.length : Int) = (l.length : Int) ∧ 0 ≤ came ∧ (∀ u ∈ T, ∃ j, j < l.length ∧ u = ⟨(j : Int), (nAt l j).toNat⟩) ∧ WI now T (Z.map Sl.l) E1 E2 ∧ Z.length = 64 ∧ St c w' (wl p r1 r2 now 64 T.length Z E1 E2 L),
    ⟨_, 0, tms l l.length, Z, E1, E2, rfl, rfl, by omega, by rw [tms_length]; omega, by omega, fun u hu => tms_mem hu, hI, hZ, by rw [tms_length]; exact h⟩, ?_⟩
  clear h hI hZ Z E1 E2
  rintro m came _ w' ⟨now, T, Z, E1, E2, rfl, rfl, hnow, hcame, hc0, hT, hI, hZ, h⟩
  refine ifd (fun hle => ?_) fun hgt => ?_
  rotate_left
  · have eT : T = [] := by
      cases T with
      | nil => rfl
      | cons u T =>
        obtain ⟨j, hj1, e⟩ := hT u (by simp)
        have h1 := hj j hj1
        have h2 := (hI.rng u (by simp)).1
        rw [e] at h2
        simp only at h2
        omega
    subst eT
    refine ifq (fun _ => ?_) fun e => absurd (by simpa using hcame) e
    refine len_okW h fun h => ?_
    (repeat (first | apply Exists.intro (α := Int) | apply Exists.intro (α := Bool) | apply Exists.intro (α := ByteArray) | (apply Exists.intro (α := Option Addr); apply Exists.intro (α := Nat); apply Exists.intro (α := Nat)) | apply Exists.intro (α := Option Addr) | apply Exists.intro (α := Value)))
    refine ⟨rfl, ?_⟩
    refine ift rfl ?_
    refine alive29_ok h.noWheel fun w' h => ?_
    (repeat (first | apply Exists.intro (α := Int) | apply Exists.intro (α := Bool) | apply Exists.intro (α := ByteArray) | (apply Exists.intro (α := Option Addr); apply Exists.intro (α := Nat); apply Exists.intro (α := Nat)) | apply Exists.intro (α := Option Addr) | apply Exists.intro (α := Value)))
    refine ⟨rfl, ?_⟩
    exact letb rfl (hk _ h)
  have hTl : T.length ≤ 20 := by omega
  refine tick_ok h hI hZ (n := now + 1) rfl (by omega) (by omega) fun w' O d C Z E1 E2 hC hp hI' hZ h => ?_
  (repeat (first | apply Exists.intro (α := Int) | apply Exists.intro (α := Bool) | apply Exists.intro (α := ByteArray) | (apply Exists.intro (α := Option Addr); apply Exists.intro (α := Nat); apply Exists.intro (α := Nat)) | apply Exists.intro (α := Option Addr) | apply Exists.intro (α := Value)))
  refine ⟨rfl, ?_⟩
  have hCnd : C.Nodup := by
    rw [hp.nodup_iff]
    exact (List.filter_sublist.map Tm.id).nodup hI.ids
  have hCm : ∀ x ∈ C, ∃ j : Nat, j < l.length ∧ x = (j : Int) ∧ nAt l j = ((now + 1 : Nat) : Int) := fun x hx => by
    obtain ⟨u, hu, rfl⟩ := List.mem_map.1 (hp.mem_iff.1 hx)
    obtain ⟨hu1, hu2⟩ := List.mem_filter.1 hu
    obtain ⟨j, hj1, rfl⟩ := hT u hu1
    have h1 := hj j hj1
    simp at hu2
    exact ⟨j, hj1, rfl, by omega⟩
  have hlen : C.length + (T.filter fun t => !(t.at' == now + 1)).length = T.length := by
    rw [hp.length_eq, List.length_map]
    exact filt_len (fun t : Tm => t.at' == now + 1) T
  refine ⟨fun m cm x w' => ∃ q : Nat, x = q ∧ m = C.length - q ∧ q ≤ C.length ∧ cm = came + q ∧ St c w' (own 3 1 O C.length d (C.flatMap iv) :: wl p r1 r2 (now + 1 : Nat) 64 (T.filter fun t => !(t.at' == now + 1)).length Z E1 E2 L), ⟨_, 0, rfl, rfl, by omega, by omega, h⟩, ?_⟩
  clear h
  rintro m _ _ w' ⟨q, rfl, rfl, hq, rfl, h⟩
  refine ifd (fun hlt => ?_) fun hge2 => ?_
  rotate_left
  · refine leti (y := ((now + 1 + 1 : Nat) : Int)) (by rw [wrap_i64 (by omega) (by omega)]; omega) ⟨_, by omega, now + 1, _, Z, E1, E2, rfl, rfl, by omega, by omega, by omega, fun u hu => hT u (List.mem_filter.1 hu).1, hI', hZ, h.drop⟩
  have hql : q < C.length := by omega
  obtain ⟨j, hj1, ej, ejn⟩ := hCm (at0 C q) (List.mem_of_getElem? (at0_get hql))
  have h := h.drew
  refine h.arrR .head rfl hql ?_
  rw [ej]
  refine ifdf (by omega) ?_
  refine h.arrR .head rfl hql ?_
  rw [ej]
  refine ifdf (by omega) ?_
  refine h.arrR .head rfl hql ?_
  rw [ej]
  refine h.rdN hrw.more hj1 ?_
  refine ifn (fun e => absurd ejn e) fun _ => ?_
  have nx : IntKind.i64.wrap ((q : Int) + 1) = ((q + 1 : Nat) : Int) := by rw [wrap_i64 (by omega) (by omega)]; omega
  have nc : IntKind.i64.wrap (came + (q : Int) + 1) = came + ((q + 1 : Nat) : Int) := by rw [wrap_i64 (by omega) (by omega)]; omega
  refine ifd (fun hpos => ?_) fun _ => leti nc (leti nx ⟨_, by omega, q + 1, rfl, rfl, by omega, rfl, h⟩)
  rw [show IntKind.i64.wrap ((q : Int) - 1) = ((q - 1 : Nat) : Int) by rw [wrap_i64 (by omega) (by omega)]; omega]
  refine h.arrR .head rfl hql ?_
  refine h.arrR .head rfl (by omega) ?_
  refine ifdf ?_ (leti nc (leti nx ⟨_, by omega, q + 1, rfl, rfl, by omega, rfl, h⟩))
  have g1 := at0_get hql
  have g2 := at0_get (D := C) (i := q - 1) (by omega)
  obtain ⟨i1, e1⟩ := List.getElem?_eq_some_iff.1 g1
  obtain ⟨i2, e2⟩ := List.getElem?_eq_some_iff.1 g2
  have s1 := List.pairwise_iff_getElem.1 hC (q - 1) q i2 i1 (by omega)
  have s2 := List.pairwise_iff_getElem.1 hCnd (q - 1) q i2 i1 (by omega)
  rw [e1, e2] at s1 s2
  unfold Le fI at s1
  omega
end
end Go.Br
