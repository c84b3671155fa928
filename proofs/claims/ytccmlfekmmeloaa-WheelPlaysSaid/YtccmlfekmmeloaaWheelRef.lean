/- The document's clock: what a call of each function does. -/
import Derived.Test.YtccmlfekmmeloaaNWheelRef
import Derived.Test.YtccmlfekmmeloaaWheel4
set_option linter.unusedVariables false
set_option linter.unusedSimpArgs false
set_option linter.unnecessarySimpa false
namespace Go.Br
open Go
instance biWheelRefa (x0 : Int) : Bld PG (Instr.build 97 #[(1, .int .i64 x0)]) (.agg #[.int .i64 0, .int .i64 x0, .slice none 0 0]) := ⟨fun w => by kernel_rfl⟩
instance biWheelRefb : Zro PG 97 3 40 (.agg #[.int .i64 0, .int .i64 0, .slice none 0 0]) := ⟨tiOf (by kernel_rfl)⟩
attribute [local irreducible] Addr.add RD RDS RUN RUNU NILC LETB CALL CALLX CALLV

theorem tiT29 : TI PG 172 2 16 (.agg #[.int .i64 0, .int .i64 0]) := tiOf (by kernel_rfl)
theorem huT29 : PG.underlying 95 = some (.slice 172) := by kernel_rfl
abbrev r29 (now most : Int) (A : Option Addr) (n k : Nat) : List Value := [.int .i64 now, .int .i64 most, .slice A n k]
abbrev r29v (now most : Int) (A : Option Addr) (n k : Nat) : Value := .agg #[.int .i64 now, .int .i64 most, .slice A n k]
section
variable {c : Ctx} {w : World} {L R : List SA} {A : Option Addr} {k : Nat} {T : List Tm} {now : Nat} {most : Int}
theorem rnew_ok (h : St c w L) {m : Int} {Q : Value → World → Prop} (hk : ∀ w', St c w' L → Q (r29v 0 (minN (maxN m 0) 4096) none 0 0) w') : CALL PG 45 [.int .i64 m] w Q := by
  refine call45 ?_
  unfold N45
  refine h.allocZ fun p w' h => ?_
  refine ifd (fun h1 => ifdf (by decide) ?_) fun h1 => ifd (fun h2 => ?_) fun h2 => ?_
  all_goals
    refine RD.bld ?_
    (repeat (first | apply Exists.intro (α := Int) | apply Exists.intro (α := Bool) | apply Exists.intro (α := ByteArray) | (apply Exists.intro (α := Option Addr); apply Exists.intro (α := Nat); apply Exists.intro (α := Nat)) | apply Exists.intro (α := Option Addr) | apply Exists.intro (α := Value)))
    refine ⟨rfl, ?_⟩
    refine h.stG fun w' h => ?_
    refine h.rdG ?_
    (repeat (first | apply Exists.intro (α := Int) | apply Exists.intro (α := Bool) | apply Exists.intro (α := ByteArray) | (apply Exists.intro (α := Option Addr); apply Exists.intro (α := Nat); apply Exists.intro (α := Nat)) | apply Exists.intro (α := Option Addr) | apply Exists.intro (α := Value)))
    refine ⟨rfl, ?_⟩
    have hk := hk _ h.drop
  · rwa [show minN (maxN m 0) 4096 = 0 by unfold minN maxN; (repeat' split) <;> omega] at hk
  · rwa [show minN (maxN m 0) 4096 = 4096 by unfold minN maxN; (repeat' split) <;> omega] at hk
  · rwa [show minN (maxN m 0) 4096 = m by unfold minN maxN; (repeat' split) <;> omega] at hk
theorem rcancel_ok (h : St c w L) (hr : RdIn L A (T.flatMap tm)) (hT : T.length ≤ 5000) {id : Int} {Q : Value → World → Prop}
    (hk : ∀ w' O d, St c w' (own 172 2 O (T.filter (notI id)).length d ((T.filter (notI id)).flatMap tm) :: L) → Q (.tuple #[r29v now most O (T.filter (notI id)).length d, .bool (decide (((T.filter (notI id)).length : Int) < (T.length : Int)))]) w') :
    CALL PG 46 [r29v now most A T.length k, .int .i64 id] w Q := by
  refine call46 ?_
  unfold N46
  refine h.box fun p w' h => ?_
  refine h.allocZ fun q w' h => ?_
  have h := h.addOwnNil 172 2
  refine ⟨fun m O oN d x w' => ∃ j : Nat, x = j ∧ m = T.length - j ∧ j ≤ T.length ∧ ((T.take j).filter (notI id)).length = oN ∧ St c w' (own 172 2 O oN d (((T.take j).filter (notI id)).flatMap tm) :: blk q 97 (r29 0 0 none 0 0) :: blk p 97 (r29 now most A T.length k) :: L), ⟨_, 0, rfl, rfl, by omega, rfl, h⟩, ?_⟩
  clear h
  rintro m O _ d _ w' ⟨j, rfl, rfl, hj, rfl, h⟩
  refine h.rdL 2 ?_
  refine ifd (fun hlt => ?_) fun hge => ?_
  rotate_left
  · have ej : j = T.length := by omega
    rw [ej, List.take_length] at h ⊢
    refine h.rdL 2 ?_
    refine letb rfl ?_
    refine h.st 2 fun w' h => ?_
    refine h.rdG ?_
    (repeat (first | apply Exists.intro (α := Int) | apply Exists.intro (α := Bool) | apply Exists.intro (α := ByteArray) | (apply Exists.intro (α := Option Addr); apply Exists.intro (α := Nat); apply Exists.intro (α := Nat)) | apply Exists.intro (α := Option Addr) | apply Exists.intro (α := Value)))
    refine ⟨rfl, ?_⟩
    refine h.stG fun w' h => ?_
    refine letb rfl ?_
    refine h.rdG ?_
    (repeat (first | apply Exists.intro (α := Int) | apply Exists.intro (α := Bool) | apply Exists.intro (α := ByteArray) | (apply Exists.intro (α := Option Addr); apply Exists.intro (α := Nat); apply Exists.intro (α := Nat)) | apply Exists.intro (α := Option Addr) | apply Exists.intro (α := Value)))
    refine ⟨rfl, ?_⟩
    exact hk _ _ _ (h.sub (.cons (.tail (.tail .head)) (Sub.same _).more.more))
  obtain ⟨t, ht⟩ := ex_get (L := T) (j := j) (by omega)
  have nx : IntKind.i64.wrap ((j : Int) + 1) = ((j + 1 : Nat) : Int) := by rw [wrap_i64 (by omega) (by omega)]; omega
  have hfl := List.length_filter_le (notI id) (T.take j)
  rw [List.length_take] at hfl
  refine h.rdL 2 ?_
  refine h.ix (z := 1) hr.more.more.more ht fun b hb => ?_
  have hr1 := hr
  rw [hb] at hr1
  refine h.rdEI 0 hr1.more.more.more ht ?_
  refine ifn (fun hne => ?_) fun heq => ?_
  · refine h.rdL 2 ?_
    refine h.ix (z := 1) hr.more.more.more ht fun b2 hb2 => ?_
    rw [hb] at hb2
    injection hb2 with hb2
    subst hb2
    refine h.rdEG hr1.more.more.more ht ?_
    (repeat (first | apply Exists.intro (α := Int) | apply Exists.intro (α := Bool) | apply Exists.intro (α := ByteArray) | (apply Exists.intro (α := Option Addr); apply Exists.intro (α := Nat); apply Exists.intro (α := Nat)) | apply Exists.intro (α := Option Addr) | apply Exists.intro (α := Value)))
    refine ⟨rfl, ?_⟩
    refine h.app1 huT29 tiT29 (tm t) .head (tm_flat1 t) (by omega) fun O2 d2 w' h => ?_
    have es : (T.take (j + 1)).filter (notI id) = (T.take j).filter (notI id) ++ [t] := by
      rw [take_snoc' ht, List.filter_append]
      unfold notI
      simp [hne]
    refine leti nx ⟨_, by omega, j + 1, rfl, rfl, by omega, by rw [es, List.length_append]; rfl, ?_⟩
    rw [es, List.flatMap_append]
    simpa using h
  · have es : (T.take (j + 1)).filter (notI id) = (T.take j).filter (notI id) := by
      rw [take_snoc' ht, List.filter_append]
      unfold notI
      simp [heq]
    exact leti nx ⟨_, by omega, j + 1, rfl, rfl, by omega, by rw [es], by rw [es]; exact h⟩
theorem rdue_ok (h : St c w L) (hr : RdIn L A (T.flatMap tm)) (hT : T.length ≤ 5000) (hn : now ≤ 100000000000) (ha : ∀ t ∈ T, t.at' ≤ 100000000000) {id : Int} {Q : Value → World → Prop}
    (h0 : (∀ t ∈ T, t.id ≠ id) → ∀ w', St c w' L → Q (.tuple #[.int .i64 0, .bool false]) w')
    (h1 : ∀ t ∈ T, t.id = id → ∀ w', St c w' L → Q (.tuple #[.int .i64 ((t.at' : Int) - (now : Int)), .bool true]) w') :
    CALL PG 52 [r29v now most A T.length k, .int .i64 id] w Q := by
  refine call52 ?_
  unfold N52
  refine h.box fun p w' h => ?_
  refine ⟨fun m x w' => ∃ j : Nat, x = j ∧ m = T.length - j ∧ j ≤ T.length ∧ (∀ t ∈ T.take j, t.id ≠ id) ∧ St c w' (blk p 97 (r29 now most A T.length k) :: L), ⟨_, 0, rfl, rfl, by omega, by simp, h⟩, ?_⟩
  clear h
  rintro m _ w' ⟨j, rfl, rfl, hj, hno, h⟩
  refine h.rdL 2 ?_
  refine ifd (fun hlt => ?_) fun hge => ?_
  rotate_left
  · have ej : j = T.length := by omega
    rw [ej, List.take_length] at hno
    exact h0 hno _ h.drop
  obtain ⟨t, ht⟩ := ex_get (L := T) (j := j) (by omega)
  have htm := List.mem_of_getElem? ht
  have hta := ha t htm
  refine h.rdL 2 ?_
  refine h.ix (z := 1) hr.more ht fun b hb => ?_
  have hr1 := hr
  rw [hb] at hr1
  refine h.rdEI 0 hr1.more ht ?_
  refine ifq (fun heq => ?_) fun hne => ?_
  · have h := h.drew
    refine h.rdL 2 ?_
    refine h.ix (z := 1) hr.more ht fun b2 hb2 => ?_
    rw [hb] at hb2
    injection hb2 with hb2
    subst hb2
    refine h.rdEI 1 hr1.more ht ?_
    refine h.rdI 0 ?_
    exact leti (wrap_i64 (by omega) (by omega)) (h1 t htm heq _ h.drop)
  · refine leti (y := ((j + 1 : Nat) : Int)) (by rw [wrap_i64 (by omega) (by omega)]; omega) ⟨_, by omega, j + 1, rfl, rfl, by omega, fun u hu => ?_, h⟩
    rw [take_snoc' ht, List.mem_append, List.mem_singleton] at hu
    rcases hu with hu | rfl
    · exact hno u hu
    · exact hne
theorem rnext_ok (h : St c w L) (hr : RdIn L A (T.flatMap tm)) (hT : T.length ≤ 5000) (hn : now ≤ 100000000000) (ha : ∀ t ∈ T, t.at' ≤ 100000000000) {Q : Value → World → Prop}
    (h0 : T = [] → ∀ w', St c w' L → Q (.tuple #[.int .i64 0, .bool false]) w')
    (h1 : ∀ (b : Int) w', (∃ t ∈ T, b = (t.at' : Int) - (now : Int)) → (∀ t ∈ T, b ≤ (t.at' : Int) - (now : Int)) → St c w' L → Q (.tuple #[.int .i64 b, .bool true]) w') :
    CALL PG 53 [r29v now most A T.length k] w Q := by
  refine call53 ?_
  unfold N53
  refine h.box fun p w' h => ?_
  refine ⟨fun m b x w' => ∃ j : Nat, x = j ∧ m = T.length - j ∧ j ≤ T.length ∧ (j = 0 → b = 0) ∧ (0 < j → ∃ t ∈ T, b = (t.at' : Int) - (now : Int)) ∧ (∀ t ∈ T.take j, b ≤ (t.at' : Int) - (now : Int)) ∧ St c w' (blk p 97 (r29 now most A T.length k) :: L), ⟨_, 0, rfl, rfl, by omega, fun _ => rfl, fun e => by omega, by simp, h⟩, ?_⟩
  clear h
  rintro m b _ w' ⟨j, rfl, rfl, hj, hb0, hb1, hbl, h⟩
  refine h.rdL 2 ?_
  refine ifd (fun hlt => ?_) fun hge => ?_
  rotate_left
  · have ej : j = T.length := by omega
    rw [ej, List.take_length] at hbl
    have h := h.drew
    refine h.rdL 2 ?_
    refine leti rfl ?_
    by_cases e : T = []
    · subst e
      rw [hb0 (by simpa using ej)]
      exact letb rfl (h0 rfl _ h.drop)
    · have hpos := List.length_pos_iff.2 e
      exact letb (y := true) (by simp; omega) (h1 b _ (hb1 (by omega)) hbl h.drop)
  obtain ⟨t, ht⟩ := ex_get (L := T) (j := j) (by omega)
  have htm := List.mem_of_getElem? ht
  have hta := ha t htm
  have h := h.drew
  refine h.rdL 2 ?_
  refine h.ix (z := 1) hr.more ht fun b2 hb2 => ?_
  have hr1 := hr
  rw [hb2] at hr1
  refine h.rdEI 1 hr1.more ht ?_
  refine h.rdI 0 ?_
  refine leti (wrap_i64 (by omega) (by omega)) ?_
  have nx : IntKind.i64.wrap ((j : Int) + 1) = ((j + 1 : Nat) : Int) := by rw [wrap_i64 (by omega) (by omega)]; omega
  have stp : ∀ {b' : Int}, (b' = (t.at' : Int) - (now : Int) ∨ b' = b) → (∀ u ∈ T.take j, b' ≤ (u.at' : Int) - (now : Int)) → b' ≤ (t.at' : Int) - (now : Int) → ∀ u ∈ T.take (j + 1), b' ≤ (u.at' : Int) - (now : Int) := fun {b'} _ g1 g2 u hu => by
    rw [take_snoc' ht, List.mem_append, List.mem_singleton] at hu
    rcases hu with hu | rfl
    · exact g1 u hu
    · exact g2
  refine ifq (fun e0 => ?_) fun e0 => ifd (fun hlt2 => ?_) fun hge2 => ?_
  · have ej : j = 0 := by omega
    subst ej
    exact leti rfl (leti nx ⟨_, by omega, 1, rfl, rfl, by omega, fun e => by omega, fun _ => ⟨t, htm, rfl⟩, stp (.inl rfl) (by simp) (Int.le_refl _), h⟩)
  · exact leti rfl (leti nx ⟨_, by omega, j + 1, rfl, rfl, by omega, fun e => by omega, fun _ => ⟨t, htm, rfl⟩, stp (.inl rfl) (fun u hu => by have := hbl u hu; omega) (Int.le_refl _), h⟩)
  · exact leti nx ⟨_, by omega, j + 1, rfl, rfl, by omega, fun e => by omega, fun _ => hb1 (by omega), stp (.inr rfl) hbl (by omega), h⟩
theorem row29_ok (h : St c w L) {B : Option Addr} {C : List Int} {kb : Nat} (hr : RdIn L A (C.flatMap iv)) (hr2 : RdIn L B (C.flatMap iv)) (hl : C.length ≤ 100000) {Q : Value → World → Prop} (hk : ∀ w', St c w' L → Q (.bool true) w') :
    CALL PG 49 [.slice A C.length k, .slice B C.length kb] w Q := by
  refine call49 ?_
  unfold N49
  refine ifn (fun e => absurd rfl e) fun _ => ?_
  refine ⟨fun m x w' => ∃ j : Nat, x = j ∧ m = C.length - j ∧ j ≤ C.length ∧ St c w' L, ⟨_, 0, rfl, rfl, by omega, h⟩, ?_⟩
  clear h
  rintro m _ w' ⟨j, rfl, rfl, hj, h⟩
  refine ifd (fun hlt => ?_) fun hge => hk _ h
  have h := h.drew
  refine h.ix (z := 0) hr (at0_get (D := C) (i := j) (by omega)) (fun a ha => ?_) (by omega)
  have hr1 := hr
  rw [ha] at hr1
  refine h.rdWI hr1 (at0_get (D := C) (i := j) (by omega)) ?_
  refine h.ix (z := 0) hr2 (at0_get (D := C) (i := j) (by omega)) (fun b hb => ?_) (by omega)
  have hr3 := hr2
  rw [hb] at hr3
  refine h.rdWI hr3 (at0_get (D := C) (i := j) (by omega)) ?_
  refine ifn (fun e => absurd rfl e) fun _ => leti (y := ((j + 1 : Nat) : Int)) (by rw [wrap_i64 (by omega) (by omega)]; omega) ⟨_, by omega, j + 1, rfl, rfl, by omega, h⟩
end
end Go.Br
