/- The laws of numbers that are reckoned. -/
import Derived.Test.YtccmlfekmmeloaaDoorNRepLaw
import Derived.Test.YtccmlfekmmeloaaDoorRepTab
set_option linter.unusedVariables false
set_option linter.unusedSimpArgs false
set_option linter.unnecessarySimpa false
namespace Go.Br
open Go
instance biRepLawa : Zro PG 24 4 32 (.agg #[.int .i64 0, .int .i64 0, .int .i64 0, .int .i64 0]) := ⟨tiOf (by kernel_rfl)⟩
instance biRepLawb : Zro PG 26 4 32 (.agg #[.int .i64 0, .int .i64 0, .int .i64 0, .int .i64 0]) := ⟨tiOf (by kernel_rfl)⟩
attribute [local irreducible] Addr.add RD RDS RUN RUNU NILC LETB CALL CALLX CALLV

theorem tabAB (A : Option Addr) (k : Nat) : tabL [⟨A, [ByteArray.mk #[97], ByteArray.mk #[98]], k⟩] = [97, 32, 32, 98, 10] := by kernel_rfl
theorem srt15 : Srt fI [1, 5] := by
  refine List.pairwise_cons.2 ⟨fun x hx => ?_, List.pairwise_singleton _ _⟩
  simp at hx
  subst hx
  unfold Le fI
  decide
section
variable {c : Ctx} {w : World} {L R : List SA} {A : Option Addr} {k : Nat}
theorem alive37_ok (h : St c w L) {Q : Value → World → Prop} (hk : ∀ w', St c w' L → Q (.bool true) w') : CALL PG 11 [] w Q := by
  refine call11 ?_
  unfold N11
  refine h.lit (n := 2) 3 1 (([1, 5] : List Int).flatMap iv) fun p w' h => ?_
  refine of_ok (l := [1, 5]) h (RdIn.own .head) (by decide) fun w' lo hi _ _ h => ?_
  (repeat (first | apply Exists.intro (α := Int) | apply Exists.intro (α := Bool) | apply Exists.intro (α := ByteArray) | (apply Exists.intro (α := Option Addr); apply Exists.intro (α := Nat); apply Exists.intro (α := Nat)) | apply Exists.intro (α := Option Addr) | apply Exists.intro (α := Value)))
  refine ⟨rfl, ?_⟩
  refine mean_ok (s := ⟨_, _, _, _⟩) h ?_ ?_ fun w' h => ?_
  · exact ⟨by show (0 : Int) ≤ 2; decide, by show (2 : Int) ≤ 1000000; decide⟩
  · exact ⟨by show -4611686018427387904 ≤ sumI (([1, 5] : List Int).map clampI); decide, by show sumI (([1, 5] : List Int).map clampI) ≤ 4611686018427387904; decide⟩
  (repeat (first | apply Exists.intro (α := Int) | apply Exists.intro (α := Bool) | apply Exists.intro (α := ByteArray) | (apply Exists.intro (α := Option Addr); apply Exists.intro (α := Nat); apply Exists.intro (α := Nat)) | apply Exists.intro (α := Option Addr) | apply Exists.intro (α := Value)))
  refine ⟨rfl, ?_⟩
  refine ift (by show ((if (2 : Int) = 0 then 0 else sumI (([1, 5] : List Int).map clampI) / 2) == 3) = true; decide) ?_
  refine h.lit (n := 2) 3 1 (([1, 5] : List Int).flatMap iv) fun p w' h => ?_
  refine pct_ok (l := [1, 5]) h (RdIn.own .head) (by decide) fun w' x hx h => ?_
  (repeat (first | apply Exists.intro (α := Int) | apply Exists.intro (α := Bool) | apply Exists.intro (α := ByteArray) | (apply Exists.intro (α := Option Addr); apply Exists.intro (α := Nat); apply Exists.intro (α := Nat)) | apply Exists.intro (α := Option Addr) | apply Exists.intro (α := Value)))
  refine ⟨rfl, ?_⟩
  have ex : x = 1 := by
    have := hx.2 (by decide) [1, 5] srt15 (.refl _)
    have e2 : (some 1 : Option Int) = some x := this
    injection e2 with e2
    exact e2.symm
  refine ift (by rw [ex]; rfl) ?_
  refine h.lit (n := 2) 9 1 (([ByteArray.mk #[97], ByteArray.mk #[98]] : List ByteArray).flatMap tv) fun p w' h => ?_
  refine h.lit (n := 1) 34 1 (([⟨some ⟨p, 0, none⟩, [ByteArray.mk #[97], ByteArray.mk #[98]], 2⟩] : List Rw).flatMap rwv) fun p2 w' h => ?_
  refine table_ok (X := [⟨some ⟨p, 0, none⟩, [ByteArray.mk #[97], ByteArray.mk #[98]], 2⟩]) h (RdIn.own .head) (fun x hx => ?_) ⟨by show 1 ≤ 1000; decide, fun x hx => ?_, fun x hx i => ?_⟩ fun w' h => ?_
  · rw [List.mem_singleton] at hx
    subst hx
    exact RdIn.own (.tail .head)
  · rw [List.mem_singleton] at hx
    subst hx
    show 2 ≤ 100
    decide
  · rw [List.mem_singleton] at hx
    subst hx
    match i with
    | 0 => exact show 1 ≤ 100 by decide
    | 1 => exact show 1 ≤ 100 by decide
    | n + 2 => exact Nat.le_trans (Nat.le_of_eq (szA_out (by simp))) (by decide)
  (repeat (first | apply Exists.intro (α := Int) | apply Exists.intro (α := Bool) | apply Exists.intro (α := ByteArray) | (apply Exists.intro (α := Option Addr); apply Exists.intro (α := Nat); apply Exists.intro (α := Nat)) | apply Exists.intro (α := Option Addr) | apply Exists.intro (α := Value)))
  refine ⟨rfl, ?_⟩
  rw [tabAB]
  exact letb (by kernel_rfl) (hk _ h.drop.drop.drop.drop)
theorem mean_up {s n : Int} (hn : 0 < n) (h : 0 ≤ s + 1073741824 * n) : Int.tdiv (s + 1073741824 * n) n - 1073741824 = s / n := by
  rw [Int.tdiv_eq_ediv_of_nonneg h, Int.add_mul_ediv_right _ _ (show n ≠ 0 by omega)]
  omega
theorem numbers_ok (h : St c w L) {l : List Int} (hr : RdIn L A (l.flatMap iv)) {part : Int} {Q : Value → World → Prop} (hk : ∀ w', St c w' L → Q (.bool true) w') : CALL PG 3 [.slice A l.length k, .int .i64 part] w Q := by
  refine call3 ?_
  unfold N3
  refine ifd (fun _ => hk _ h) fun hl => ?_
  have hl : l.length ≤ 300 := by omega
  refine of_ok h hr (by omega) fun w' lo hi hlo hhi h => ?_
  (repeat (first | apply Exists.intro (α := Int) | apply Exists.intro (α := Bool) | apply Exists.intro (α := ByteArray) | (apply Exists.intro (α := Option Addr); apply Exists.intro (α := Nat); apply Exists.intro (α := Nat)) | apply Exists.intro (α := Option Addr) | apply Exists.intro (α := Value)))
  refine ⟨rfl, ?_⟩
  refine h.allocZ fun p w' h => ?_
  refine h.stG fun w' h => ?_
  refine rof_ok h hr.more (by omega) fun w' lo' hi' hlo' hhi' h => ?_
  obtain rfl := hlo.uniq hlo'
  obtain rfl := hhi.uniq hhi'
  refine ⟨_, rfl, ?_⟩
  refine h.allocZ fun q w' h => ?_
  refine h.stG fun w' h => ?_
  have hbd := sumI_bd l
  generalize hS : sumI (l.map clampI) = S at *
  refine jI h (fun x => x = if (l.length : Int) = 0 then 0 else S / (l.length : Int)) ?_ ?_
  · refine ⟨by decide, ?_⟩
    refine h.rdI _ ?_
    refine ifd (fun hpos => ?_) fun hz => ⟨by rw [if_pos (by omega)], h⟩
    refine ⟨by decide, ?_⟩
    refine h.rdI _ ?_
    refine ⟨by decide, ?_⟩
    refine h.rdI _ ?_
    refine ⟨by decide, ?_⟩
    refine h.rdI _ ?_
    refine ⟨by omega, ?_⟩
    have e1 : IntKind.i64.wrap (1073741824 * (l.length : Int)) = 1073741824 * (l.length : Int) := wrap_i64 (by omega) (by omega)
    have e2 : IntKind.i64.wrap (S + 1073741824 * (l.length : Int)) = S + 1073741824 * (l.length : Int) := wrap_i64 (by omega) (by omega)
    have hb : Int.tdiv (S + 1073741824 * (l.length : Int)) (l.length : Int) ≤ 4611686018427387904 ∧ -4611686018427387904 ≤ Int.tdiv (S + 1073741824 * (l.length : Int)) (l.length : Int) := by
      have h1 := Int.natAbs_tdiv_le_natAbs (S + 1073741824 * (l.length : Int)) (l.length : Int)
      omega
    rw [e1, e2]
    refine leti (wrap_i64 (by omega) (by omega)) (leti (wrap_i64 (by omega) (by omega)) ⟨?_, h⟩)
    rw [if_neg (by omega)]
    exact mean_up (by omega) (by omega)
  clear h
  rintro _ w' rfl h
  have eqi : ∀ x : Int, (x == x) = true := fun x => by simp
  refine h.rdI 0 ?_
  refine ⟨by decide, ?_⟩
  refine h.rdI _ ?_
  refine ift (eqi _) ?_
  refine h.rdI 1 ?_
  refine ⟨by decide, ?_⟩
  refine h.rdI _ ?_
  refine ift (eqi _) ?_
  refine h.rdI 2 ?_
  refine ⟨by decide, ?_⟩
  refine h.rdI _ ?_
  refine ift (eqi _) ?_
  refine h.rdI 3 ?_
  refine ⟨by decide, ?_⟩
  refine h.rdI _ ?_
  refine ift (eqi _) ?_
  refine h.rdG ?_
  (repeat (first | apply Exists.intro (α := Int) | apply Exists.intro (α := Bool) | apply Exists.intro (α := ByteArray) | (apply Exists.intro (α := Option Addr); apply Exists.intro (α := Nat); apply Exists.intro (α := Nat)) | apply Exists.intro (α := Option Addr) | apply Exists.intro (α := Value)))
  refine ⟨rfl, ?_⟩
  refine mean_ok (s := ⟨_, _, _, _⟩) h ⟨by show (0 : Int) ≤ (l.length : Int); omega, by show (l.length : Int) ≤ 1000000; omega⟩ ⟨by show -4611686018427387904 ≤ S; omega, by show S ≤ 4611686018427387904; omega⟩ fun w' h => ?_
  (repeat (first | apply Exists.intro (α := Int) | apply Exists.intro (α := Bool) | apply Exists.intro (α := ByteArray) | (apply Exists.intro (α := Option Addr); apply Exists.intro (α := Nat); apply Exists.intro (α := Nat)) | apply Exists.intro (α := Option Addr) | apply Exists.intro (α := Value)))
  refine ⟨rfl, ?_⟩
  refine ift (eqi _) ?_
  refine pct_ok h hr.more.more (by omega) fun w' x hx h => ?_
  (repeat (first | apply Exists.intro (α := Int) | apply Exists.intro (α := Bool) | apply Exists.intro (α := ByteArray) | (apply Exists.intro (α := Option Addr); apply Exists.intro (α := Nat); apply Exists.intro (α := Nat)) | apply Exists.intro (α := Option Addr) | apply Exists.intro (α := Value)))
  refine ⟨rfl, ?_⟩
  refine rpct_ok h hr.more.more (by omega) fun w' y hy h => ?_
  (repeat (first | apply Exists.intro (α := Int) | apply Exists.intro (α := Bool) | apply Exists.intro (α := ByteArray) | (apply Exists.intro (α := Option Addr); apply Exists.intro (α := Nat); apply Exists.intro (α := Nat)) | apply Exists.intro (α := Option Addr) | apply Exists.intro (α := Value)))
  refine ⟨rfl, ?_⟩
  refine ift (by
    have hC : ∃ C : List Int, Srt fI C ∧ C.Perm l := ex_sorted l
    obtain ⟨C, hC, hp⟩ := hC
    rw [hx.uniq hy hC hp]
    exact eqi _) ?_
  refine alive37_ok h fun w' h => ?_
  (repeat (first | apply Exists.intro (α := Int) | apply Exists.intro (α := Bool) | apply Exists.intro (α := ByteArray) | (apply Exists.intro (α := Option Addr); apply Exists.intro (α := Nat); apply Exists.intro (α := Nat)) | apply Exists.intro (α := Option Addr) | apply Exists.intro (α := Value)))
  refine ⟨rfl, ?_⟩
  exact letb rfl (hk _ h.drop.drop)
theorem tables_ok (h : St c w L) {X : List Rw} (hr : RdIn L A (X.flatMap rwv)) (hs : ∀ x ∈ X, RdIn L x.A (x.ss.flatMap tv)) {Q : Value → World → Prop} (hk : ∀ w', St c w' L → Q (.bool true) w') : CALL PG 4 [.slice A X.length k] w Q := by
  refine call4 ?_
  unfold N4
  refine ifd (fun _ => hk _ h) fun hX => ?_
  refine ⟨fun m x w' => ∃ j : Nat, x = j ∧ m = X.length - j ∧ j ≤ X.length ∧ (∀ y ∈ X.take j, y.ss.length ≤ 20 ∧ ∀ i, szA y i ≤ 100) ∧ St c w' L, ⟨_, 0, rfl, rfl, by omega, fun y hy => by simp at hy, h⟩, ?_⟩
  clear h
  rintro m _ w' ⟨j, rfl, rfl, hj, hy0, h⟩
  refine ifd (fun hlt => ?_) fun hge => ?_
  · obtain ⟨y, hy⟩ := ex_get (L := X) (j := j) (by omega)
    have hm := List.mem_of_getElem? hy
    refine h.rowL hr hy ?_
    refine ifd (fun _ => hk _ h) fun hyl => ?_
    refine ⟨fun m x w' => ∃ q : Nat, x = q ∧ m = y.ss.length - q ∧ q ≤ y.ss.length ∧ (∀ i, i < q → szA y i ≤ 100) ∧ St c w' L, ⟨_, 0, rfl, rfl, by omega, fun i hi => by omega, h⟩, ?_⟩
    clear h
    rintro m _ w' ⟨q, rfl, rfl, hq, hsz, h⟩
    refine h.rowL hr hy ?_
    refine ifd (fun hlt2 => ?_) fun hge2 => ?_
    · refine h.rowL hr hy (h.rowT (hs y hm) (by omega) ?_)
      refine ifd (fun _ => hk _ h) fun hle => ?_
      refine leti (y := ((q + 1 : Nat) : Int)) (by rw [wrap_i64 (by omega) (by omega)]; omega) ⟨_, by omega, q + 1, rfl, rfl, by omega, fun i hi => ?_, h⟩
      by_cases e : i = q
      · subst e
        have esz : (sAt y.ss i).size = szA y i := rfl
        omega
      · exact hsz i (by omega)
    · refine leti (y := ((j + 1 : Nat) : Int)) (by rw [wrap_i64 (by omega) (by omega)]; omega) ⟨_, by omega, j + 1, rfl, rfl, by omega, fun z hz => ?_, h⟩
      rw [take_snoc' hy, List.mem_append, List.mem_singleton] at hz
      rcases hz with hz | rfl
      · exact hy0 z hz
      · refine ⟨by omega, fun i => ?_⟩
        by_cases e : i < q
        · exact hsz i e
        · rw [szA_out (by omega)]; omega
  have ej : j = X.length := by omega
  rw [ej, List.take_length] at hy0
  have hB : TabB X := ⟨by omega, fun x hx => by have := (hy0 x hx).1; omega, fun x hx => (hy0 x hx).2⟩
  refine table_ok h hr hs hB fun w' h => ?_
  (repeat (first | apply Exists.intro (α := Int) | apply Exists.intro (α := Bool) | apply Exists.intro (α := ByteArray) | (apply Exists.intro (α := Option Addr); apply Exists.intro (α := Nat); apply Exists.intro (α := Nat)) | apply Exists.intro (α := Option Addr) | apply Exists.intro (α := Value)))
  refine ⟨rfl, ?_⟩
  refine rtable_ok h hr hs hB fun w' h => ?_
  (repeat (first | apply Exists.intro (α := Int) | apply Exists.intro (α := Bool) | apply Exists.intro (α := ByteArray) | (apply Exists.intro (α := Option Addr); apply Exists.intro (α := Nat); apply Exists.intro (α := Nat)) | apply Exists.intro (α := Option Addr) | apply Exists.intro (α := Value)))
  refine ⟨rfl, ?_⟩
  refine ift (by simp) ?_
  refine alive37_ok h fun w' h => ?_
  (repeat (first | apply Exists.intro (α := Int) | apply Exists.intro (α := Bool) | apply Exists.intro (α := ByteArray) | (apply Exists.intro (α := Option Addr); apply Exists.intro (α := Nat); apply Exists.intro (α := Nat)) | apply Exists.intro (α := Option Addr) | apply Exists.intro (α := Value)))
  refine ⟨rfl, ?_⟩
  exact letb rfl (hk _ h)
end
end Go.Br
