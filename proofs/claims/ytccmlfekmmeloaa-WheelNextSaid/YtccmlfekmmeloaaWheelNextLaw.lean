/- The law of a wheel: what comes next. -/
import Derived.Test.YtccmlfekmmeloaaNWheelNextLaw
import Derived.Test.YtccmlfekmmeloaaWheel4
set_option linter.unusedVariables false
set_option linter.unusedSimpArgs false
set_option linter.unnecessarySimpa false
namespace Go.Br
open Go
attribute [local irreducible] Addr.add RD RDS RUN RUNU NILC LETB CALL CALLX CALLV

def idAt (l : List Op29) (j : Nat) : Int := (l.getD j ⟨0, 0, 0⟩).id
theorem idAt_get {l : List Op29} {j : Nat} {o : Op29} (h : l[j]? = some o) : idAt l j = o.id := by unfold idAt; rw [List.getD_eq_getElem?_getD, h]; rfl
section
variable {c : Ctx} {w : World} {L R : List SA} {p r1 r2 : Nat} {now : Nat} {most many : Int} {Z : List Sl} {E1 E2 : List (Int × Value)} {T : List Tm} {A : Option Addr} {k : Nat}
theorem St.rdId {K : Int → Prop} {l : List Op29} (h : St c w L) (hr : RdIn L A (l.flatMap op29)) {j : Nat} (hj : j < l.length) (hk : K (idAt l j)) :
    IDX A l.length (j : Int) fun a => RDI PG (loadVar 3 (Addr.add (Addr.add a (Int.toNat (j : Int) * 3)) 1)) .i64 w K := by
  obtain ⟨o, ho⟩ := ex_get (L := l) (j := j) hj
  rw [idAt_get ho] at hk
  exact h.ix (z := 2) hr ho (fun a ha => by subst ha; exact h.rdEI 1 hr ho hk) hj
theorem nextL_ok (h : St c w L) {l : List Op29} (hr : RdIn L A (l.flatMap op29)) {Q : Value → World → Prop} (hk : ∀ w', St c w' L → Q (.bool true) w') : CALL PG 9 [.slice A l.length k] w Q := by
  refine call9 ?_
  unfold N9
  refine ifd (fun _ => hk _ h) fun hl => ?_
  have hl : l.length ≤ 20 := by omega
  refine new_okW h fun w' p r1 r2 Z hZ hI h => ?_
  (repeat (first | apply Exists.intro (α := Int) | apply Exists.intro (α := Bool) | apply Exists.intro (α := ByteArray) | (apply Exists.intro (α := Option Addr); apply Exists.intro (α := Nat); apply Exists.intro (α := Nat)) | apply Exists.intro (α := Option Addr) | apply Exists.intro (α := Value)))
  refine ⟨rfl, ?_⟩
  refine iff_ rfl ?_
  have hrw : ∀ {now most many Z E1 E2}, RdIn (wl p r1 r2 now most many Z E1 E2 L) A (l.flatMap op29) := fun {now most many Z E1 E2} c w h => hr c w h.noWheel
  refine ⟨fun m x w' => ∃ (i : Nat) (T : List Tm) (Z : List Sl) (E1 E2 : List (Int × Value)), x = i ∧ m = l.length - i ∧ i ≤ l.length ∧ T.length ≤ i ∧ (∀ t ∈ T, t.at' ≤ 3000) ∧ WI 0 T (Z.map Sl.l) E1 E2 ∧ Z.length = 64 ∧ St c w' (wl p r1 r2 (0 : Nat) 64 T.length Z E1 E2 L),
    ⟨_, 0, [], Z, [], [], rfl, rfl, by omega, by simp, fun t ht => by simp at ht, hI, hZ, h⟩, ?_⟩
  clear h hI hZ
  rintro m _ w' ⟨i, T, Z, E1, E2, rfl, rfl, hi, hTi, hT3, hI, hZ, h⟩
  refine ifd (fun hlt => ?_) fun hge => ?_
  · have hil : i < l.length := by omega
    refine ⟨fun b w' => ∃ (T : List Tm) (Z : List Sl) (E1 E2 : List (Int × Value)), (b = true → nAt l i < 1 ∨ 3000 < nAt l i) ∧ (b = false → T.length ≤ i + 1 ∧ ∀ t ∈ T, t.at' ≤ 3000) ∧ WI 0 T (Z.map Sl.l) E1 E2 ∧ Z.length = 64 ∧ St c w' (wl p r1 r2 (0 : Nat) 64 T.length Z E1 E2 L), ?_, ?_⟩
    · have h := h.drew
      refine h.rdN hrw hil ?_
      refine ifd (fun h1 => ⟨T, Z, E1, E2, fun _ => .inl h1, fun e => by simp at e, hI, hZ, h⟩) fun h1 => ?_
      refine h.rdN hrw hil ?_
      refine ifd (fun h2 => ⟨T, Z, E1, E2, fun _ => .inr h2, fun e => by simp at e, hI, hZ, h⟩) fun h2 => ?_
      refine h.rdId hrw hil ?_
      refine h.rdN hrw hil ?_
      obtain ⟨k, hkk⟩ : ∃ k : Nat, nAt l i = (k : Int) := ⟨(nAt l i).toNat, by omega⟩
      rw [hkk]
      have hle := List.length_filter_le (notI (idAt l i)) T
      refine add_ok h hI hZ (k := k) (by omega) (by omega) (by decide) (by omega) (fun hm => by omega) fun hm w' Z' E1' E2' hI' hZ' h => ?_
      (repeat (first | apply Exists.intro (α := Int) | apply Exists.intro (α := Bool) | apply Exists.intro (α := ByteArray) | (apply Exists.intro (α := Option Addr); apply Exists.intro (α := Nat); apply Exists.intro (α := Nat)) | apply Exists.intro (α := Option Addr) | apply Exists.intro (α := Value)))
      refine ⟨rfl, ?_⟩
      refine ⟨_, Z', E1', E2', fun e => by simp at e, fun _ => ⟨by rw [List.length_append, List.length_singleton]; omega, fun t ht => ?_⟩, hI', hZ', h⟩
      simp only [List.mem_append, List.mem_singleton] at ht
      rcases ht with ht | rfl
      · exact hT3 t (List.mem_filter.1 ht).1
      · show 0 + k ≤ 3000
        omega
    clear h hI hZ hTi hT3
    rintro b w' ⟨T, Z, E1, E2, hb1, hb2, hI, hZ, h⟩
    refine ifb (fun e => ?_) fun e => ?_
    · refine h.rdN hrw hil ?_
      refine ifd (fun h1 => letb rfl (hk _ h.noWheel)) fun h1 => ?_
      refine h.rdN hrw hil ?_
      exact letb (by have := hb1 e; simp; omega) (hk _ h.noWheel)
    · obtain ⟨a1, a2⟩ := hb2 e
      exact leti (y := ((i + 1 : Nat) : Int)) (by rw [wrap_i64 (by omega) (by omega)]; omega) ⟨_, by omega, i + 1, T, Z, E1, E2, rfl, rfl, by omega, a1, a2, hI, hZ, h⟩
  refine ⟨fun m w' => ∃ (now : Nat) (T : List Tm) (Z : List Sl) (E1 E2 : List (Int × Value)), m = T.length ∧ now ≤ 3000 ∧ T.length ≤ 20 ∧ (∀ t ∈ T, t.at' ≤ 3000) ∧ WI now T (Z.map Sl.l) E1 E2 ∧ Z.length = 64 ∧ St c w' (wl p r1 r2 now 64 T.length Z E1 E2 L),
    ⟨_, 0, T, Z, E1, E2, rfl, by omega, by omega, hT3, hI, hZ, h⟩, ?_⟩
  clear h hI hZ hT3 hTi
  rintro m w' ⟨now, T, Z, E1, E2, rfl, hnow, hTl, hT3, hI, hZ, h⟩
  refine len_okW h fun h => ?_
  (repeat (first | apply Exists.intro (α := Int) | apply Exists.intro (α := Bool) | apply Exists.intro (α := ByteArray) | (apply Exists.intro (α := Option Addr); apply Exists.intro (α := Nat); apply Exists.intro (α := Nat)) | apply Exists.intro (α := Option Addr) | apply Exists.intro (α := Value)))
  refine ⟨rfl, ?_⟩
  refine ifd (fun hpos => ?_) fun hz => ?_
  rotate_left
  · have eT : T = [] := List.length_eq_zero_iff.1 (by omega)
    subst eT
    refine next_ok h hI hZ (by omega) (fun _ w' h => ?_) fun n w' hex _ h => by obtain ⟨t, ht, _⟩ := hex; cases ht
    (repeat (first | apply Exists.intro (α := Int) | apply Exists.intro (α := Bool) | apply Exists.intro (α := ByteArray) | (apply Exists.intro (α := Option Addr); apply Exists.intro (α := Nat); apply Exists.intro (α := Nat)) | apply Exists.intro (α := Option Addr) | apply Exists.intro (α := Value)))
    refine ⟨rfl, ?_⟩
    refine leti rfl (letb rfl (ift rfl ?_))
    refine alive29_ok h.noWheel fun w' h => ?_
    (repeat (first | apply Exists.intro (α := Int) | apply Exists.intro (α := Bool) | apply Exists.intro (α := ByteArray) | (apply Exists.intro (α := Option Addr); apply Exists.intro (α := Nat); apply Exists.intro (α := Nat)) | apply Exists.intro (α := Option Addr) | apply Exists.intro (α := Value)))
    refine ⟨rfl, ?_⟩
    exact letb rfl (hk _ h)
  refine next_ok h hI hZ (by omega) (fun e => by subst e; simp at hpos) fun n w' hex hall h => ?_
  obtain ⟨t0, ht0, et0⟩ := hex
  have hr0 := hI.rng t0 ht0
  have h30 := hT3 t0 ht0
  (repeat (first | apply Exists.intro (α := Int) | apply Exists.intro (α := Bool) | apply Exists.intro (α := ByteArray) | (apply Exists.intro (α := Option Addr); apply Exists.intro (α := Nat); apply Exists.intro (α := Nat)) | apply Exists.intro (α := Option Addr) | apply Exists.intro (α := Value)))
  refine ⟨rfl, ?_⟩
  refine leti rfl (letb rfl (iff_ rfl ?_))
  refine ifdf (by omega) (ifdf (by omega) ?_)
  refine ⟨fun m x w' => ∃ (q : Nat) (Z : List Sl) (E1 E2 : List (Int × Value)), x = ((q + 1 : Nat) : Int) ∧ m = n - q ∧ q < n ∧ WI (now + q) T (Z.map Sl.l) E1 E2 ∧ Z.length = 64 ∧ St c w' (wl p r1 r2 (now + q : Nat) 64 T.length Z E1 E2 L),
    ⟨_, 0, Z, E1, E2, rfl, rfl, by omega, hI, hZ, h⟩, ?_⟩
  clear h hI hZ
  rintro m _ w' ⟨q, Z, E1, E2, rfl, rfl, hq, hI, hZ, h⟩
  refine ifd (fun hlt => ?_) fun hge => ?_
  · have e1 : (T.filter fun t => t.at' == now + (q + 1)) = [] := List.filter_eq_nil_iff.2 fun t ht => by have := hall t ht; simp; omega
    have e2 : (T.filter fun t => !(t.at' == now + (q + 1))) = T := List.filter_eq_self.2 fun t ht => by have := hall t ht; simp; omega
    refine tick_ok h hI hZ (n := now + (q + 1)) (by omega) (by omega) (by omega) fun w' O d C Z' E1' E2' hC hp hI' hZ' h => ?_
    rw [e1] at hp
    rw [e2] at hI' h
    have eC : C = [] := List.Perm.eq_nil (show C.Perm [] from hp)
    subst eC
    (repeat (first | apply Exists.intro (α := Int) | apply Exists.intro (α := Bool) | apply Exists.intro (α := ByteArray) | (apply Exists.intro (α := Option Addr); apply Exists.intro (α := Nat); apply Exists.intro (α := Nat)) | apply Exists.intro (α := Option Addr) | apply Exists.intro (α := Value)))
    refine ⟨rfl, ?_⟩
    refine iff_ rfl (leti (y := ((q + 1 + 1 : Nat) : Int)) (by rw [wrap_i64 (by omega) (by omega)]; omega) ⟨_, by omega, q + 1, Z', E1', E2', rfl, rfl, by omega, hI', hZ', h.drop⟩)
  have eqn : q + 1 = n := by omega
  refine tick_ok h hI hZ (n := now + n) (by omega) (by omega) (by omega) fun w' O d C Z' E1' E2' hC hp hI' hZ' h => ?_
  (repeat (first | apply Exists.intro (α := Int) | apply Exists.intro (α := Bool) | apply Exists.intro (α := ByteArray) | (apply Exists.intro (α := Option Addr); apply Exists.intro (α := Nat); apply Exists.intro (α := Nat)) | apply Exists.intro (α := Option Addr) | apply Exists.intro (α := Value)))
  refine ⟨rfl, ?_⟩
  have hCl : 0 < C.length := by
    rw [hp.length_eq, List.length_map]
    exact List.length_pos_iff.2 fun e => by
      have := List.filter_eq_nil_iff.1 e t0 ht0
      simp [et0] at this
  have hlen : C.length + (T.filter fun t => !(t.at' == now + n)).length = T.length := by
    rw [hp.length_eq, List.length_map]
    exact filt_len (fun t : Tm => t.at' == now + n) T
  refine ifq (fun e => absurd e (by omega)) fun _ => ?_
  exact ⟨_, by omega, now + n, _, Z', E1', E2', rfl, by omega, by omega, fun t ht => hT3 t (List.mem_filter.1 ht).1, hI', hZ', h.drop⟩
end
end Go.Br
