/- slices.Sort of numbers, of any length. -/
import Derived.Test.YtccmlfekmmeloaaPdq9
set_option linter.unusedVariables false
set_option linter.unusedSimpArgs false
set_option linter.unnecessarySimpa false
namespace Go.Br
open Go
attribute [local irreducible] Addr.add RD RDS RUN RUNU NILC LETB CALL CALLX CALLV

theorem SrtR.srt {D : List Int} (h : SrtR 0 D.length D) : Srt fI D := by
  refine List.pairwise_iff_getElem.2 fun i j hi hj hij => ?_
  have := h i j (by omega) hij hj
  have e1 := at0_get hi
  have e2 := at0_get hj
  rw [List.getElem?_eq_getElem hi] at e1
  rw [List.getElem?_eq_getElem hj] at e2
  injection e1 with e1
  injection e2 with e2
  unfold Le fI
  omega
section
variable {c : Ctx} {A : Option Addr} {n k : Nat}
theorem pdq_ok (N : Nat) : ∀ {w : World} {L : List SA} {D : List Int} {a b : Nat} {lim : Int}, St c w (own 3 1 A n k (D.flatMap iv) :: L) → D.length = n → n ≤ 1000000 → a ≤ b → b ≤ n → b - a ≤ N → Pre a b D → ∀ {Q : Value → World → Prop},
    (∀ D' w', Mix a b D D' → SrtR a b D' → St c w' (own 3 1 A n k (D'.flatMap iv) :: L) → Q (.tuple #[]) w') →
    CALL PG 130 [.slice A n k, .int .i64 (a : Int), .int .i64 (b : Int), .int .i64 lim] w Q := by
  induction N using Nat.strongRecOn with
  | ind N ih =>
  intro w L D A0 B0 lim h hn hb hab hbn hN hpre Q hk
  refine call130 ?_
  unfold N130
  refine ⟨fun m i j l x y w' => ∃ (a b : Nat) (D' : List Int), i = a ∧ j = b ∧ m = b - a ∧ PQ A0 B0 a b D D' ∧ St c w' (own 3 1 A n k (D'.flatMap iv) :: L), ⟨_, A0, B0, D, rfl, rfl, rfl, .start hpre hab, h⟩, ?_⟩
  clear h
  rintro _ _ _ lim bal prt w' ⟨a, b, D', rfl, rfl, rfl, hP, h⟩
  have lD : D'.length = n := by rw [hP.mix.len, hn]
  have hAa := hP.Aa
  have hab := hP.ab
  have hbB := hP.bB
  refine leti (y := ((b - a : Nat) : Int)) (by rw [wrap_i64 (by omega) (by omega)]; omega) ?_
  refine ifd (fun hle => ?_) fun hgt => ?_
  · refine insr_ok h lD hb hab (by omega) fun D2 w' hM hS h => ⟨rfl, ?_⟩
    obtain ⟨m1, s1⟩ := hP.fin hM hS
    exact hk D2 _ m1 s1 h
  have hgt : a + 12 < b := by omega
  refine ifq (fun _ => ?_) fun _ => ?_
  · refine heap_ok h lD hb (by omega) (by omega) fun D2 w' hM hS h => ⟨rfl, ?_⟩
    obtain ⟨m1, s1⟩ := hP.fin hM hS
    exact hk D2 _ m1 s1 h
  refine ⟨fun l w' => ∃ D' : List Int, PQ A0 B0 a b D D' ∧ St c w' (own 3 1 A n k (D'.flatMap iv) :: L), ?_, ?_⟩
  · refine ifnot (fun _ => ?_) fun _ => ⟨D', hP, h⟩
    refine break_ok h lD hb hgt (by omega) fun D2 w' hM h => ⟨rfl, leti rfl ⟨D2, hP.mixed hM, h⟩⟩
  clear h hP lD
  rintro lim w' ⟨D', hP, h⟩
  have lD : D'.length = n := by rw [hP.mix.len, hn]
  refine choose_ok h lD hb hgt (by omega) fun p hint w' hp h => ?_
  (repeat (first | apply Exists.intro (α := Int) | apply Exists.intro (α := Bool) | apply Exists.intro (α := ByteArray) | (apply Exists.intro (α := Option Addr); apply Exists.intro (α := Nat); apply Exists.intro (α := Nat)) | apply Exists.intro (α := Option Addr) | apply Exists.intro (α := Value)))
  refine ⟨rfl, ?_⟩
  refine leti rfl (leti rfl ?_)
  refine ⟨fun l hh w' => ∃ (p : Nat) (D' : List Int), l = p ∧ a ≤ p ∧ p < b ∧ PQ A0 B0 a b D D' ∧ St c w' (own 3 1 A n k (D'.flatMap iv) :: L), ?_, ?_⟩
  · refine ifq (fun _ => ?_) fun _ => ⟨p, D', rfl, hp.1, hp.2, hP, h⟩
    refine reverse_ok h lD hb (by omega) (by omega) fun D2 w' hM h => ⟨rfl, ?_⟩
    exact leti (y := ((b - 1 - (p - a) : Nat) : Int)) (by rw [wrap_i64 (n := (b : Int) - 1) (by omega) (by omega), wrap_i64 (n := (p : Int) - a) (by omega) (by omega), wrap_i64 (by omega) (by omega)]; omega) ⟨_, D2, rfl, by omega, by omega, hP.mixed hM, h⟩
  clear h hP lD hp
  rintro _ hint w' ⟨p, D', rfl, hp1, hp2, hP, h⟩
  have lD : D'.length = n := by rw [hP.mix.len, hn]
  refine ⟨fun w' => ∃ (D' : List Int), PQ A0 B0 a b D D' ∧ St c w' (own 3 1 A n k (D'.flatMap iv) :: L), ?_, ?_⟩
  · refine ifb (fun _ => ifb (fun _ => ifq (fun _ => ?_) fun _ => ⟨D', hP, h⟩) fun _ => ⟨D', hP, h⟩) fun _ => ⟨D', hP, h⟩
    refine partial_ok h lD hb (by omega) (by omega) hP.here fun D2 bb w' hM hS h => ?_
    (repeat (first | apply Exists.intro (α := Int) | apply Exists.intro (α := Bool) | apply Exists.intro (α := ByteArray) | (apply Exists.intro (α := Option Addr); apply Exists.intro (α := Nat); apply Exists.intro (α := Nat)) | apply Exists.intro (α := Option Addr) | apply Exists.intro (α := Value)))
    refine ⟨rfl, ?_⟩
    refine ifb (fun e => ?_) fun _ => ⟨D2, hP.mixed hM, h⟩
    obtain ⟨m1, s1⟩ := hP.fin hM (hS e)
    exact hk D2 _ m1 s1 h
  clear h hP lD
  rintro w' ⟨D', hP, h⟩
  have lD : D'.length = n := by rw [hP.mix.len, hn]
  refine ⟨fun i w' => i = (a : Int) ∧ St c w' (own 3 1 A n k (D'.flatMap iv) :: L), ?_, ?_⟩
  · refine ifd (fun ha => ?_) fun _ => ⟨rfl, h.drew⟩
    rw [show IntKind.i64.wrap ((a : Int) - 1) = ((a - 1 : Nat) : Int) by rw [wrap_i64 (by omega) (by omega)]; omega]
    have h := h.drew
    refine h.arrR .head lD (by omega) ?_
    refine h.arrR .head lD (by omega) ?_
    refine less_ok ?_
    (repeat (first | apply Exists.intro (α := Int) | apply Exists.intro (α := Bool) | apply Exists.intro (α := ByteArray) | (apply Exists.intro (α := Option Addr); apply Exists.intro (α := Nat); apply Exists.intro (α := Nat)) | apply Exists.intro (α := Option Addr) | apply Exists.intro (α := Value)))
    refine ⟨rfl, ?_⟩
    refine ifnot (fun hx => ?_) fun _ => ⟨rfl, h⟩
    have hx := of_decide_eq_false hx
    refine parteq_ok h lD hb ⟨hp1, hp2⟩ (by omega) fun D2 m w' hM ham hmb h1 h2 h => ?_
    (repeat (first | apply Exists.intro (α := Int) | apply Exists.intro (α := Bool) | apply Exists.intro (α := ByteArray) | (apply Exists.intro (α := Option Addr); apply Exists.intro (α := Nat); apply Exists.intro (α := Nat)) | apply Exists.intro (α := Option Addr) | apply Exists.intro (α := Value)))
    refine ⟨rfl, ?_⟩
    exact leti rfl (leti rfl ⟨b - m, by omega, m, b, D2, rfl, rfl, rfl, hP.equal hM ham hmb (by omega) ⟨hp1, hp2⟩ (by omega) h1 h2, h⟩)
  clear h
  rintro _ w' ⟨rfl, h⟩
  refine part_ok h lD hb ⟨hp1, hp2⟩ (by omega) fun D2 m al w' hM ham hmb h1 h2 h => ?_
  have hPt : Part a b m D' D2 := ⟨hM, ham, hmb, fun t t1 t2 => Int.le_of_lt (h1 t t1 t2), h2⟩
  have lD2 : D2.length = n := by rw [hM.len, lD]
  (repeat (first | apply Exists.intro (α := Int) | apply Exists.intro (α := Bool) | apply Exists.intro (α := ByteArray) | (apply Exists.intro (α := Option Addr); apply Exists.intro (α := Nat); apply Exists.intro (α := Nat)) | apply Exists.intro (α := Option Addr) | apply Exists.intro (α := Value)))
  refine ⟨rfl, ?_⟩
  refine leti rfl (letb rfl (letb rfl ?_))
  refine leti (y := ((m - a : Nat) : Int)) (by rw [wrap_i64 (by omega) (by omega)]; omega) ?_
  refine leti (y := ((b - m : Nat) : Int)) (by rw [wrap_i64 (by omega) (by omega)]; omega) ⟨by decide, leti rfl ?_⟩
  have nx : IntKind.i64.wrap ((m : Int) + 1) = ((m + 1 : Nat) : Int) := by rw [wrap_i64 (by omega) (by omega)]; omega
  refine ifd (fun _ => letb rfl ?_) fun _ => letb rfl ?_
  · refine ih (m - a) (by omega) h lD2 hb ham (by omega) (Nat.le_refl _) (hPt.left hP.here) fun D3 w' hM3 hS3 h => ⟨rfl, leti nx ⟨b - (m + 1), by omega, m + 1, b, D3, rfl, rfl, rfl, hP.left hPt hM3 hS3, h⟩⟩
  · rw [nx]
    refine ih (b - (m + 1)) (by omega) h lD2 hb (by omega) (by omega) (Nat.le_refl _) hPt.right fun D3 w' hM3 hS3 h => ⟨rfl, leti rfl ⟨m - a, by omega, a, m, D3, rfl, rfl, rfl, hP.right hPt hM3 hS3, h⟩⟩
theorem sortN_ok {w : World} {R : List SA} {X : List Int} (hn : X.length = n) (hb : n ≤ 1000000) (h : St c w (own 3 1 A n k (X.flatMap iv) :: R)) {Q : Value → World → Prop}
    (hk : ∀ w' C, Srt fI C → C.Perm X → St c w' (own 3 1 A n k (C.flatMap iv) :: R) → Q (.tuple #[]) w') : CALL PG 98 [.slice A n k] w Q := by
  refine call98 ?_
  unfold N98
  refine leti rfl ?_
  rw [wrap_u64 (by omega)]
  have key : ∀ y : Int, CALL PG 130 [.slice A n k, .int .i64 0, .int .i64 (n : Int), .int .i64 y] w fun v1 w2 => v1 = (.tuple #[]) ∧ Q (.tuple #[]) w2 := fun y =>
    pdq_ok n (a := 0) h hn hb (Nat.zero_le _) (Nat.le_refl _) (Nat.le_refl _) (.inl rfl) fun D' w' hM hS h => by
      have e := hM.len
      exact ⟨rfl, hk w' D' (SrtR.srt (by rw [e, hn]; exact hS)) hM.perm h⟩
  by_cases h0 : 0 < n
  · refine lenE_ok h0 (by omega) fun b hb hb1 => ⟨_, rfl, key _⟩
  · have : n = 0 := by omega
    subst this
    exact len_ok' (by decide) (by decide) fun y => ⟨_, rfl, key _⟩
end
end Go.Br
