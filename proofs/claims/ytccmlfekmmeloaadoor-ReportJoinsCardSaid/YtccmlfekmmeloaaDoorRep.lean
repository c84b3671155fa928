/- Numbers that are reckoned: what a call of each function does, of the program and of the document. -/
import Derived.Test.YtccmlfekmmeloaaDoorNRep
import Derived.Test.YtccmlfekmmeloaaDoorPdq10
import Derived.Test.YtccmlfekmmeloaaDoorRepPure
set_option linter.unusedVariables false
set_option linter.unusedSimpArgs false
set_option linter.unnecessarySimpa false
namespace Go.Br
open Go
instance biRepa (x0 : Int) : Bld PG (Instr.build 24 #[(0, .int .i64 x0)]) (.agg #[.int .i64 x0, .int .i64 0, .int .i64 0, .int .i64 0]) := ⟨fun w => by kernel_rfl⟩
instance biRepb : Zro PG 24 4 32 (.agg #[.int .i64 0, .int .i64 0, .int .i64 0, .int .i64 0]) := ⟨tiOf (by kernel_rfl)⟩
instance biRepc : Zro PG 26 4 32 (.agg #[.int .i64 0, .int .i64 0, .int .i64 0, .int .i64 0]) := ⟨tiOf (by kernel_rfl)⟩
attribute [local irreducible] Addr.add RD RDS RUN RUNU NILC LETB CALL CALLX CALLV

structure Stt where
  many : Int
  least : Int
  most : Int
  sum : Int
def stt (x : Stt) : List Value := [.int .i64 x.many, .int .i64 x.least, .int .i64 x.most, .int .i64 x.sum]
abbrev sttv (x : Stt) : Value := .agg #[.int .i64 x.many, .int .i64 x.least, .int .i64 x.most, .int .i64 x.sum]
theorem stt_length (x : Stt) : (stt x).length = 4 := rfl
theorem stt_flat1 (x : Stt) : Flat (stt x) := by intro v hv; simp [stt] at hv; rcases hv with rfl | rfl | rfl | rfl <;> rfl
theorem stt_flat (L : List Stt) : Flat (L.flatMap stt) := by
  intro v hv
  simp only [List.mem_flatMap] at hv
  obtain ⟨x, _, hx⟩ := hv
  exact stt_flat1 x v hx
theorem tiinC : TI PG 3 1 8 (.int .i64 0) := tiOf (by kernel_rfl)
theorem huinC : PG.underlying 22 = some (.slice 3) := by kernel_rfl
theorem inclone_ok {c : Ctx} {w : World} {L : List SA} (h : St c w L) {A : Option Addr} {k : Nat} {S : List Int} (hr : RdIn L A (S.flatMap iv)) (hl : S.length ≤ 100000) {Q : Value → World → Prop}
    (hk : ∀ O d w', St c w' (own 3 1 O S.length d (S.flatMap iv) :: L) → Q (.slice O S.length d) w') : CALL PG 17 [.slice A S.length k] w Q := by
  refine call17 ?_
  unfold N17
  refine ifb (fun hn => ?_) fun hn => ?_
  · have hA : A = none := by simpa using hn
    subst hA
    have e := (hr c w h).none
    have hS : S = [] := by
      have := congrArg List.length e
      rw [flat_length iv_length, List.length_nil] at this
      exact List.length_eq_zero_iff.1 (by omega)
    subst hS
    exact hk none 0 _ (h.addOwnNil _ _)
  · refine h.lit (n := 0) 3 1 [] fun q w' h => ?_
    refine h.append huinC tiinC .head hr.more (m := S.length) (flat_length iv_length S) (iv_flat S) (by omega) fun O d w' h => ?_
    simp only [Nat.zero_add, List.nil_append] at h ⊢
    exact hk O d _ h
instance biA4z : Bld PG (Instr.build 26 #[]) (.agg #[.int .i64 0, .int .i64 0, .int .i64 0, .int .i64 0]) := ⟨fun w => by kernel_rfl⟩
instance biA4 (x0 x1 x2 x3 : Int) : Bld PG (Instr.build 26 #[(0, .int .i64 x0), (1, .int .i64 x1), (2, .int .i64 x2), (3, .int .i64 x3)]) (.agg #[.int .i64 x0, .int .i64 x1, .int .i64 x2, .int .i64 x3]) := ⟨fun w => by kernel_rfl⟩
abbrev a4 (x0 x1 x2 x3 : Int) : List Value := [.int .i64 x0, .int .i64 x1, .int .i64 x2, .int .i64 x3]
theorem mean_eq {s n : Int} (hn : 0 < n) : (if Int.tmod s n < 0 then Int.tdiv s n - 1 else Int.tdiv s n) = s / n := by
  rcases Int.lt_or_le s 0 with h | h
  · obtain ⟨m, rfl⟩ : ∃ m, s = -m := ⟨-s, by omega⟩
    have hm : 0 ≤ m := by omega
    rw [Int.neg_tmod, Int.neg_tdiv, Int.tdiv_eq_ediv_of_nonneg hm, Int.tmod_eq_emod_of_nonneg hm]
    have e1 := Int.emod_add_mul_ediv m n
    have e2 := Int.emod_nonneg m (show n ≠ 0 by omega)
    have e3 := Int.emod_lt_of_pos m hn
    split
    · refine ((Int.ediv_emod_unique hn (q := -(m / n) - 1) (r := n - m % n)).2 ⟨?_, by omega, by omega⟩).1.symm
      rw [Int.mul_sub, Int.mul_neg]; omega
    · refine ((Int.ediv_emod_unique hn (q := -(m / n)) (r := 0)).2 ⟨?_, by omega, by omega⟩).1.symm
      rw [Int.mul_neg]; omega
  · rw [Int.tdiv_eq_ediv_of_nonneg h, Int.tmod_eq_emod_of_nonneg h, if_neg]
    have := Int.emod_nonneg s (show n ≠ 0 by omega)
    omega
section
variable {c : Ctx} {w : World} {L R : List SA} {A : Option Addr} {k : Nat}
theorem St.rowR {n : Nat} {D : List Int} {K : Int → Prop} (h : St c w L) (hr : RdIn L A (D.flatMap iv)) (hn : D.length = n) {i : Nat} (hi : i < n) (hk : K (at0 D i)) :
    IDX A n (i : Int) fun a => RDI PG (loadVar 3 (Addr.add a (Int.toNat (i : Int) * 1))) .i64 w K :=
  h.ix (z := 0) hr (at0_get (by omega)) (fun a ha => by subst ha; exact h.rdWI hr (at0_get (by omega)) hk) hi
theorem clamp_ok {x : Int} {Q : Value → World → Prop} (hk : Q (.int .i64 (clampI x)) w) : CALL PG 14 [.int .i64 x] w Q := by
  refine call14 ?_
  unfold N14
  exact leti (by unfold minN maxN clampI; (repeat' split) <;> omega) hk
theorem rclamp_ok {x : Int} {Q : Value → World → Prop} (hk : Q (.int .i64 (clampI x)) w) : CALL PG 16 [.int .i64 x] w Q := by
  refine call16 ?_
  unfold N16
  refine ifd (fun h1 => ?_) fun h1 => ifd (fun h2 => ?_) fun h2 => leti rfl ?_
  · rwa [show clampI x = 1073741824 by unfold clampI; rw [if_neg (by omega), if_pos (by omega)]] at hk
  · rwa [show clampI x = -1073741824 by unfold clampI; rw [if_pos (by omega)]] at hk
  · rwa [show clampI x = x by unfold clampI; rw [if_neg (by omega), if_neg (by omega)]] at hk
theorem take_map_snoc {l : List Int} {j : Nat} (h : j < l.length) : (l.take (j + 1)).map clampI = (l.take j).map clampI ++ [clampI (at0 l j)] := by
  rw [take_snoc' (at0_get h), List.map_append]; rfl
theorem of_ok (h : St c w L) {l : List Int} (hr : RdIn L A (l.flatMap iv)) (hl : l.length ≤ 100000) {Q : Value → World → Prop}
    (hk : ∀ w' lo hi, IsLst (l.map clampI) lo → IsMst (l.map clampI) hi → St c w' L → Q (sttv ⟨l.length, lo, hi, sumI (l.map clampI)⟩) w') : CALL PG 6 [.slice A l.length k] w Q := by
  refine call6 ?_
  unfold N6
  refine h.allocZ fun p w' h => ?_
  refine RD.bld ?_
  (repeat (first | apply Exists.intro (α := Int) | apply Exists.intro (α := Bool) | apply Exists.intro (α := ByteArray) | (apply Exists.intro (α := Option Addr); apply Exists.intro (α := Nat); apply Exists.intro (α := Nat)) | apply Exists.intro (α := Option Addr) | apply Exists.intro (α := Value)))
  refine ⟨rfl, ?_⟩
  refine h.allocZ fun q w' h => ?_
  refine h.stG fun w' h => ?_
  refine ⟨fun m x w' => ∃ (j : Nat) (lo hi : Int), x = j ∧ m = l.length - j ∧ j ≤ l.length ∧ IsLst ((l.take j).map clampI) lo ∧ IsMst ((l.take j).map clampI) hi ∧
    St c w' (blk q 24 (stt ⟨l.length, lo, hi, sumI ((l.take j).map clampI)⟩) :: blk p 24 (stt ⟨0, 0, 0, 0⟩) :: L), ⟨_, 0, 0, 0, rfl, rfl, by omega, ⟨fun _ => rfl, fun e => absurd rfl e⟩, ⟨fun _ => rfl, fun e => absurd rfl e⟩, h⟩, ?_⟩
  clear h
  rintro m _ w' ⟨j, lo, hi, rfl, rfl, hj, hlo, hhi, h⟩
  refine ifd (fun hlt => ?_) fun hge => ?_
  rotate_left
  · have ej : j = l.length := by omega
    rw [ej, List.take_length] at h hlo hhi
    refine h.rdG ?_
    (repeat (first | apply Exists.intro (α := Int) | apply Exists.intro (α := Bool) | apply Exists.intro (α := ByteArray) | (apply Exists.intro (α := Option Addr); apply Exists.intro (α := Nat); apply Exists.intro (α := Nat)) | apply Exists.intro (α := Option Addr) | apply Exists.intro (α := Value)))
    refine ⟨rfl, ?_⟩
    have h := h.swap
    refine h.stG fun w' h => ?_
    refine h.rdG ?_
    (repeat (first | apply Exists.intro (α := Int) | apply Exists.intro (α := Bool) | apply Exists.intro (α := ByteArray) | (apply Exists.intro (α := Option Addr); apply Exists.intro (α := Nat); apply Exists.intro (α := Nat)) | apply Exists.intro (α := Option Addr) | apply Exists.intro (α := Value)))
    refine ⟨rfl, ?_⟩
    exact hk _ lo hi hlo hhi h.drop.drop
  refine h.rowR hr.more.more rfl (by omega) (leti rfl (leti rfl ?_))
  refine clamp_ok ?_
  (repeat (first | apply Exists.intro (α := Int) | apply Exists.intro (α := Bool) | apply Exists.intro (α := ByteArray) | (apply Exists.intro (α := Option Addr); apply Exists.intro (α := Nat); apply Exists.intro (α := Nat)) | apply Exists.intro (α := Option Addr) | apply Exists.intro (α := Value)))
  refine ⟨rfl, ?_⟩
  refine leti rfl ?_
  have ll : (((l.take j).map clampI)).length = j := by rw [List.length_map, List.length_take]; omega
  have nx : IntKind.i64.wrap ((j : Int) + 1) = ((j + 1 : Nat) : Int) := by rw [wrap_i64 (by omega) (by omega)]; omega
  have hlo' := hlo.snoc (x := clampI (at0 l j))
  have hhi' := hhi.snoc (x := clampI (at0 l j))
  rw [ll, ← take_map_snoc (by omega)] at hlo' hhi'
  have hsum : sumI ((l.take (j + 1)).map clampI) = sumI ((l.take j).map clampI) + clampI (at0 l j) := by rw [take_map_snoc (by omega), sumI_append]; simp [sumI]
  have hbd := sumI_bd (l.take j)
  have hcl := clampI_bd (at0 l j)
  rw [List.length_take] at hbd
  have ews : IntKind.i64.wrap (sumI ((l.take j).map clampI) + clampI (at0 l j)) = sumI ((l.take (j + 1)).map clampI) := by rw [hsum, wrap_i64 (by omega) (by omega)]
  refine ⟨fun w' => St c w' (blk q 24 (stt ⟨l.length, lstS j lo (clampI (at0 l j)), hi, sumI ((l.take j).map clampI)⟩) :: blk p 24 (stt ⟨0, 0, 0, 0⟩) :: L), ?_, ?_⟩
  · refine ifq (fun h0 => ?_) fun h0 => ?_
    · rw [show lstS j lo (clampI (at0 l j)) = clampI (at0 l j) by unfold lstS; rw [if_pos (.inl (by omega))]]
      exact h.st 1 fun w' h => h
    · refine h.rdI 1 ?_
      refine ifd (fun h1 => ?_) fun h1 => ?_
      · rw [show lstS j lo (clampI (at0 l j)) = clampI (at0 l j) by unfold lstS; rw [if_pos (.inr h1)]]
        exact h.st 1 fun w' h => h
      · rw [show lstS j lo (clampI (at0 l j)) = lo by unfold lstS; rw [if_neg (fun e => e.elim (fun e => h0 (by omega)) h1)]]
        exact h
  clear h
  intro w' h
  have fin : ∀ w', St c w' (blk q 24 (stt ⟨l.length, lstS j lo (clampI (at0 l j)), mstS j hi (clampI (at0 l j)), sumI ((l.take j).map clampI)⟩) :: blk p 24 (stt ⟨0, 0, 0, 0⟩) :: L) →
      RDI PG (loadVar 3 (Addr.add ⟨q, 0, none⟩ 3)) .i64 w' fun x => RUNU PG (storeVar 3 (Addr.add ⟨q, 0, none⟩ 3) (.int .i64 (IntKind.i64.wrap (x + clampI (at0 l j))))) w' fun w'' =>
      ∃ m', m' < l.length - j ∧ ∃ (j' : Nat) (lo hi : Int), IntKind.i64.wrap ((j : Int) + 1) = j' ∧ m' = l.length - j' ∧ j' ≤ l.length ∧ IsLst ((l.take j').map clampI) lo ∧ IsMst ((l.take j').map clampI) hi ∧
      St c w'' (blk q 24 (stt ⟨l.length, lo, hi, sumI ((l.take j').map clampI)⟩) :: blk p 24 (stt ⟨0, 0, 0, 0⟩) :: L) := fun w' h => by
    refine h.rdI 3 ?_
    refine h.st 3 fun w' h => ?_
    rw [ews] at h
    exact ⟨_, by omega, j + 1, _, _, nx, rfl, by omega, hlo', hhi', h⟩
  refine ifq (fun h0 => ?_) fun h0 => ?_
  · refine h.st 2 fun w' h => fin w' ?_
    rw [show mstS j hi (clampI (at0 l j)) = clampI (at0 l j) by unfold mstS; rw [if_pos (.inl (by omega))]]
    exact h
  · refine h.rdI 2 ?_
    refine ifd (fun h1 => ?_) fun h1 => fin w' ?_
    · refine h.st 2 fun w' h => fin w' ?_
      rw [show mstS j hi (clampI (at0 l j)) = clampI (at0 l j) by unfold mstS; rw [if_pos (.inr h1)]]
      exact h
    · rw [show mstS j hi (clampI (at0 l j)) = hi by unfold mstS; rw [if_neg (fun e => e.elim (fun e => h0 (by omega)) h1)]]
      exact h
theorem mean_ok (h : St c w L) {s : Stt} (hm : 0 ≤ s.many ∧ s.many ≤ 1000000) (hs : -4611686018427387904 ≤ s.sum ∧ s.sum ≤ 4611686018427387904) {Q : Value → World → Prop}
    (hk : ∀ w', St c w' L → Q (.int .i64 (if s.many = 0 then 0 else s.sum / s.many)) w') : CALL PG 8 [sttv s] w Q := by
  refine call8 ?_
  unfold N8
  refine h.box fun p w' h => ?_
  refine h.rdI 0 ?_
  refine ifq (fun e => ?_) fun e => ?_
  · have := hk _ h.drop
    rw [if_pos e] at this
    exact this
  have hk := fun w' h => hk w' h
  simp only [if_neg e] at hk
  have hb : -4611686018427387904 ≤ Int.tdiv s.sum s.many ∧ Int.tdiv s.sum s.many ≤ 4611686018427387904 := by
    have h1 := Int.natAbs_tdiv_le_natAbs s.sum s.many
    omega
  refine h.rdI 3 ?_
  refine h.rdI 0 ?_
  refine ⟨e, leti (wrap_i64 (by omega) (by omega)) ?_⟩
  refine h.rdI 3 ?_
  refine h.rdI 0 ?_
  have em := mean_eq (s := s.sum) (n := s.many) (by omega)
  refine ⟨e, ifd (fun hlt => ?_) fun hge => ?_⟩
  · rw [if_pos hlt] at em
    refine leti (wrap_i64 (by omega) (by omega)) (leti em (hk _ h.drop))
  · rw [if_neg hge] at em
    exact leti em (hk _ h.drop)
/-- The number below which so many of a hundred lie. -/
def IsPct (l : List Int) (part x : Int) : Prop := (l = [] → x = 0) ∧ (l ≠ [] → ∀ C, Srt fI C → C.Perm l → C[pctI l.length part]? = some x)
theorem IsPct.uniq {l : List Int} {part x y : Int} (h : IsPct l part x) (h' : IsPct l part y) {C : List Int} (hC : Srt fI C) (hp : C.Perm l) : x = y := by
  by_cases e : l = []
  · rw [h.1 e, h'.1 e]
  · have h1 := h.2 e C hC hp
    have h2 := h'.2 e C hC hp
    rw [h1] at h2
    injection h2
theorem IsPct.of {l C : List Int} {part : Int} (hl : l ≠ []) (hC : Srt fI C) (hp : C.Perm l) : IsPct l part (at0 C (pctI l.length part)) := ⟨fun e => absurd e hl, fun _ C' hC' hp' => by
  rw [srt_uniq hC' hC (hp'.trans hp.symm)]
  exact at0_get (by rw [hp.length_eq]; exact pctI_lt (List.length_pos_iff.2 hl) part)⟩
theorem part_eq (part : Int) : minN (maxN part 0) 100 = (if part < 0 then 0 else if 100 < part then 100 else part) := by unfold minN maxN; (repeat' split) <;> omega
theorem pct_ok (h : St c w L) {l : List Int} (hr : RdIn L A (l.flatMap iv)) (hl : l.length ≤ 100000) {part : Int} {Q : Value → World → Prop}
    (hk : ∀ w' x, IsPct l part x → St c w' L → Q (.int .i64 x) w') : CALL PG 9 [.int .i64 part, .slice A l.length k] w Q := by
  refine call9 ?_
  unfold N9
  refine ifq (fun e => hk _ 0 ⟨fun _ => rfl, fun e2 => absurd (List.length_eq_zero_iff.1 (by omega)) e2⟩ h) fun e => ?_
  have hne : l ≠ [] := fun e2 => e (by rw [e2]; rfl)
  have hpos := List.length_pos_iff.2 hne
  refine inclone_ok h hr hl fun O d w' h => ?_
  (repeat (first | apply Exists.intro (α := Int) | apply Exists.intro (α := Bool) | apply Exists.intro (α := ByteArray) | (apply Exists.intro (α := Option Addr); apply Exists.intro (α := Nat); apply Exists.intro (α := Nat)) | apply Exists.intro (α := Option Addr) | apply Exists.intro (α := Value)))
  refine ⟨rfl, ?_⟩
  refine sortN_ok rfl (by omega) h fun w' C hC hp h => ⟨rfl, ?_⟩
  refine leti (part_eq part) ⟨by decide, ?_⟩
  have hz : 0 ≤ (l.length : Int) * (if part < 0 then 0 else if 100 < part then 100 else part) ∧ (l.length : Int) * (if part < 0 then 0 else if 100 < part then 100 else part) ≤ (l.length : Int) * 100 :=
    ⟨Int.mul_nonneg (by omega) (by split <;> (try split) <;> omega), Int.mul_le_mul_of_nonneg_left (by split <;> (try split) <;> omega) (by omega)⟩
  have hpc := pctI_lt hpos part
  have hpd : pctI l.length part = (((l.length : Int) * (if part < 0 then 0 else if 100 < part then 100 else part) + 99) / 100 - 1).toNat := rfl
  generalize hzz : (l.length : Int) * (if part < 0 then 0 else if 100 < part then 100 else part) = z at *
  refine leti (y := (z + 99) / 100) (by rw [wrap_i64 (n := z) (by omega) (by omega), wrap_i64 (n := z + 99) (by omega) (by omega), Int.tdiv_eq_ediv_of_nonneg (by omega), wrap_i64 (by omega) (by omega)]) ?_
  have ei : maxN (IntKind.i64.wrap ((z + 99) / 100 - 1)) 0 = ((pctI l.length part : Nat) : Int) := by
    rw [wrap_i64 (by omega) (by omega), hpd]
    unfold maxN
    split <;> omega
  rw [ei]
  refine h.rowR (RdIn.own .head) (by rw [hp.length_eq]) hpc (leti rfl (hk _ _ (.of hne hC hp) h.drop))
theorem rsorted_ok (h : St c w L) {l : List Int} (hr : RdIn L A (l.flatMap iv)) (hl : l.length ≤ 100000) {Q : Value → World → Prop}
    (hk : ∀ w' O d C, Srt fI C → C.Perm l → St c w' (own 3 1 O l.length d (C.flatMap iv) :: L) → Q (.slice O l.length d) w') : CALL PG 15 [.slice A l.length k] w Q := by
  refine call15 ?_
  unfold N15
  refine h.lit (n := 0) 3 1 [] fun q w' h => ?_
  refine h.append huInts tiInt .head hr.more (m := l.length) (flat_length iv_length l) (iv_flat l) (by omega) fun O d w' h => ?_
  simp only [Nat.zero_add, List.nil_append] at h ⊢
  refine ⟨fun m i w' => ∃ (j : Nat) (D : List Int), i = j ∧ m = l.length + 1 - j ∧ 1 ≤ j ∧ j ≤ l.length + 1 ∧ Mix 0 l.length l D ∧ SrtR 0 j D ∧ St c w' (own 3 1 O l.length d (D.flatMap iv) :: L), ⟨_, 1, l, rfl, rfl, by omega, by omega, .refl _ _ _, fun s t h1 h2 h3 => by omega, h⟩, ?_⟩
  clear h
  rintro m _ w' ⟨j, D, rfl, rfl, hj, hjl, hM, hS, h⟩
  have next : IntKind.i64.wrap ((j : Int) + 1) = ((j + 1 : Nat) : Int) := by rw [wrap_i64 (by omega) (by omega)]; omega
  refine ifd (fun hlt => leti rfl ?_) fun hge => hk _ _ _ D (SrtR.srt fun s t h1 h2 h3 => hS s t h1 h2 (by have := hM.len; omega)) hM.perm h
  refine ⟨fun m2 x w' => ∃ (j' : Nat) (D' : List Int), x = j' ∧ m2 = j' ∧ j' ≤ j ∧ Mix 0 l.length l D' ∧ InsP 0 j j' D' ∧ St c w' (own 3 1 O l.length d (D'.flatMap iv) :: L), ⟨_, j, D, rfl, rfl, Nat.le_refl _, hM, ⟨fun s t h1 h2 h3 h4 h5 => hS s t h1 h2 (by omega), fun t h1 h2 => by omega⟩, h⟩, ?_⟩
  clear h hM hS D
  rintro m2 _ w' ⟨q, D, rfl, rfl, hqj, hM, hI, h⟩
  have ln : D.length = l.length := hM.len
  refine ifd (fun hgt => ?_) fun hle => leti next ⟨_, by omega, j + 1, D, rfl, rfl, by omega, by omega, hM, hI.done ⟨by omega, hqj⟩ (fun e => by omega), h.drew⟩
  have e1 : IntKind.i64.wrap ((m2 : Int) - 1) = ((m2 - 1 : Nat) : Int) := by rw [wrap_i64 (by omega) (by omega)]; omega
  rw [e1]
  have h := h.drew
  refine h.arrR .head ln (by omega) ?_
  refine h.arrR .head ln (by omega) ?_
  refine ifd (fun hx => ?_) fun hx => leti next ⟨_, by omega, j + 1, D, rfl, rfl, by omega, by omega, hM, hI.done ⟨by omega, hqj⟩ (fun e => by omega), h⟩
  have h := h.drew
  refine h.arrR .head ln (by omega) ?_
  refine h.arrR .head ln (by omega) ?_
  refine h.arrW .head ln (by omega) fun w' h => ?_
  refine h.arrW .head (by rw [List.length_set]; exact ln) (by omega) fun w' h => ?_
  exact leti rfl ⟨m2 - 1, by omega, m2 - 1, swp D m2 (m2 - 1), rfl, rfl, by omega, hM.trans (Mix.swp ⟨by omega, by omega⟩ ⟨by omega, by omega⟩ (by omega)), hI.step ⟨by omega, hqj⟩ hx (by omega), h⟩
theorem rpct_ok (h : St c w L) {l : List Int} (hr : RdIn L A (l.flatMap iv)) (hl : l.length ≤ 100000) {part : Int} {Q : Value → World → Prop}
    (hk : ∀ w' x, IsPct l part x → St c w' L → Q (.int .i64 x) w') : CALL PG 10 [.int .i64 part, .slice A l.length k] w Q := by
  refine call10 ?_
  unfold N10
  refine ifq (fun e => hk _ 0 ⟨fun _ => rfl, fun e2 => absurd (List.length_eq_zero_iff.1 (by omega)) e2⟩ h) fun e => ?_
  have hne : l ≠ [] := fun e2 => e (by rw [e2]; rfl)
  have hpos := List.length_pos_iff.2 hne
  refine ⟨fun x w' => x = (if part < 0 then 0 else part) ∧ w' = w, ifd (fun hx => ⟨by rw [if_pos hx], rfl⟩) fun hx => ⟨by rw [if_neg hx], rfl⟩, ?_⟩
  rintro _ w ⟨rfl, rfl⟩
  refine ⟨fun x w' => x = (if part < 0 then 0 else if 100 < part then 100 else part) ∧ w' = w, ifd (fun hx => ⟨by (repeat' split) <;> omega, rfl⟩) fun hx => ⟨by (repeat' split) <;> omega, rfl⟩, ?_⟩
  rintro _ w ⟨rfl, rfl⟩
  have hz : 0 ≤ (l.length : Int) * (if part < 0 then 0 else if 100 < part then 100 else part) ∧ (l.length : Int) * (if part < 0 then 0 else if 100 < part then 100 else part) ≤ (l.length : Int) * 100 :=
    ⟨Int.mul_nonneg (by omega) (by split <;> (try split) <;> omega), Int.mul_le_mul_of_nonneg_left (by split <;> (try split) <;> omega) (by omega)⟩
  have hpc := pctI_lt hpos part
  have hpd : pctI l.length part = (((l.length : Int) * (if part < 0 then 0 else if 100 < part then 100 else part) + 99) / 100 - 1).toNat := rfl
  generalize hzz : (l.length : Int) * (if part < 0 then 0 else if 100 < part then 100 else part) = z at *
  refine ⟨fun m x w' => ∃ j : Nat, x = j ∧ m = l.length + 1 - j ∧ 1 ≤ j ∧ (j = 1 ∨ (j : Int) * 100 < z + 100) ∧ St c w' L, ⟨_, 1, rfl, rfl, by omega, .inl rfl, h⟩, ?_⟩
  clear h
  rintro m _ w' ⟨j, rfl, rfl, j1, hj, h⟩
  have jl : (j : Int) ≤ l.length + 1 := by omega
  rw [wrap_i64 (n := z) (by omega) (by omega), wrap_i64 (n := (j : Int) * 100) (by omega) (by omega)]
  refine ifd (fun hlt => leti (y := ((j + 1 : Nat) : Int)) (by rw [wrap_i64 (by omega) (by omega)]; omega) ⟨_, by omega, j + 1, rfl, rfl, by omega, .inr (by omega), h⟩) fun hge => ?_
  refine rsorted_ok h hr hl fun w' O d C hC hp h => ?_
  (repeat (first | apply Exists.intro (α := Int) | apply Exists.intro (α := Bool) | apply Exists.intro (α := ByteArray) | (apply Exists.intro (α := Option Addr); apply Exists.intro (α := Nat); apply Exists.intro (α := Nat)) | apply Exists.intro (α := Option Addr) | apply Exists.intro (α := Value)))
  refine ⟨rfl, ?_⟩
  rw [show IntKind.i64.wrap ((j : Int) - 1) = ((pctI l.length part : Nat) : Int) by rw [wrap_i64 (by omega) (by omega), hpd]; omega]
  exact h.rowR (RdIn.own .head) hp.length_eq hpc (leti rfl (hk _ _ (.of hne hC hp) h.drop))
theorem rof_ok (h : St c w L) {l : List Int} (hr : RdIn L A (l.flatMap iv)) (hl : l.length ≤ 100000) {Q : Value → World → Prop}
    (hk : ∀ w' lo hi, IsLst (l.map clampI) lo → IsMst (l.map clampI) hi → St c w' L → Q (.agg #[.int .i64 l.length, .int .i64 lo, .int .i64 hi, .int .i64 (sumI (l.map clampI))]) w') : CALL PG 7 [.slice A l.length k] w Q := by
  refine call7 ?_
  unfold N7
  refine h.allocZ fun p w' h => ?_
  refine rsorted_ok h hr.more hl fun w' O d C hC hp h => ?_
  (repeat (first | apply Exists.intro (α := Int) | apply Exists.intro (α := Bool) | apply Exists.intro (α := ByteArray) | (apply Exists.intro (α := Option Addr); apply Exists.intro (α := Nat); apply Exists.intro (α := Nat)) | apply Exists.intro (α := Option Addr) | apply Exists.intro (α := Value)))
  refine ⟨rfl, ?_⟩
  have hCl := hp.length_eq
  refine ifq (fun e => ?_) fun e => ?_
  · have hnil : l = [] := List.length_eq_zero_iff.1 (by omega)
    subst hnil
    refine RD.bld ?_
    (repeat (first | apply Exists.intro (α := Int) | apply Exists.intro (α := Bool) | apply Exists.intro (α := ByteArray) | (apply Exists.intro (α := Option Addr); apply Exists.intro (α := Nat); apply Exists.intro (α := Nat)) | apply Exists.intro (α := Option Addr) | apply Exists.intro (α := Value)))
    refine ⟨rfl, ?_⟩
    have h := h.swap
    refine h.stG fun w' h => ?_
    refine h.rdG ?_
    (repeat (first | apply Exists.intro (α := Int) | apply Exists.intro (α := Bool) | apply Exists.intro (α := ByteArray) | (apply Exists.intro (α := Option Addr); apply Exists.intro (α := Nat); apply Exists.intro (α := Nat)) | apply Exists.intro (α := Option Addr) | apply Exists.intro (α := Value)))
    refine ⟨rfl, ?_⟩
    exact hk _ 0 0 ⟨fun _ => rfl, fun e => absurd rfl e⟩ ⟨fun _ => rfl, fun e => absurd rfl e⟩ h.drop.drop
  have hne : l ≠ [] := fun e2 => e (by rw [e2]; rfl)
  have hpos := List.length_pos_iff.2 hne
  refine ⟨fun m s x w' => ∃ j : Nat, x = j ∧ m = l.length - j ∧ j ≤ l.length ∧ s = sumI ((C.take j).map clampI) ∧ St c w' (own 3 1 O l.length d (C.flatMap iv) :: blk p 26 (a4 0 0 0 0) :: L), ⟨_, 0, rfl, rfl, by omega, rfl, h⟩, ?_⟩
  clear h
  rintro m _ _ w' ⟨j, rfl, rfl, hj, rfl, h⟩
  refine ifd (fun hlt => ?_) fun hge => ?_
  · refine h.rowR (RdIn.own .head) hCl (by omega) ?_
    refine rclamp_ok ?_
    (repeat (first | apply Exists.intro (α := Int) | apply Exists.intro (α := Bool) | apply Exists.intro (α := ByteArray) | (apply Exists.intro (α := Option Addr); apply Exists.intro (α := Nat); apply Exists.intro (α := Nat)) | apply Exists.intro (α := Option Addr) | apply Exists.intro (α := Value)))
    refine ⟨rfl, ?_⟩
    have hsum : sumI ((C.take (j + 1)).map clampI) = sumI ((C.take j).map clampI) + clampI (at0 C j) := by rw [take_map_snoc (by omega), sumI_append]; simp [sumI]
    have hbd := sumI_bd (C.take j)
    have hcl := clampI_bd (at0 C j)
    rw [List.length_take] at hbd
    exact leti (by rw [hsum, wrap_i64 (by omega) (by omega)]) (leti (y := ((j + 1 : Nat) : Int)) (by rw [wrap_i64 (by omega) (by omega)]; omega) ⟨_, by omega, j + 1, rfl, rfl, by omega, rfl, h⟩)
  have ej : j = C.length := by omega
  rw [ej, List.take_length, sumI_perm (hp.map clampI)]
  have h := h.drew
  refine sat h ?_
  refine h.ix (z := 0) (RdIn.own .head) (at0_get (D := C) (i := 0) (by omega)) (fun a ha => ?_) hpos
  subst ha
  refine St.rdsWI (RdIn.own .head) (at0_get (D := C) (i := 0) (by omega)) ?_
  rw [show IntKind.i64.wrap ((l.length : Int) - 1) = ((l.length - 1 : Nat) : Int) by rw [wrap_i64 (by omega) (by omega)]; omega]
  refine h.ix (z := 0) (RdIn.own .head) (at0_get (D := C) (i := l.length - 1) (by omega)) (fun a ha => ?_) (by omega)
  injection ha with ha
  subst ha
  refine St.rdsWI (RdIn.own .head) (at0_get (D := C) (i := l.length - 1) (by omega)) ?_
  refine rclamp_ok ?_
  (repeat (first | apply Exists.intro (α := Int) | apply Exists.intro (α := Bool) | apply Exists.intro (α := ByteArray) | (apply Exists.intro (α := Option Addr); apply Exists.intro (α := Nat); apply Exists.intro (α := Nat)) | apply Exists.intro (α := Option Addr) | apply Exists.intro (α := Value)))
  refine ⟨rfl, ?_⟩
  refine sat1 h (fun _ h => h) ?_
  refine rclamp_ok ?_
  (repeat (first | apply Exists.intro (α := Int) | apply Exists.intro (α := Bool) | apply Exists.intro (α := ByteArray) | (apply Exists.intro (α := Option Addr); apply Exists.intro (α := Nat); apply Exists.intro (α := Nat)) | apply Exists.intro (α := Option Addr) | apply Exists.intro (α := Value)))
  refine ⟨rfl, ?_⟩
  refine sat1 h (fun _ h => h) ?_
  refine RDS.bld ?_
  (repeat (first | apply Exists.intro (α := Int) | apply Exists.intro (α := Bool) | apply Exists.intro (α := ByteArray) | (apply Exists.intro (α := Option Addr); apply Exists.intro (α := Nat); apply Exists.intro (α := Nat)) | apply Exists.intro (α := Option Addr) | apply Exists.intro (α := Value)))
  refine ⟨rfl, ?_⟩
  have h := h.swap
  refine h.stG fun w' h => ?_
  refine h.rdG ?_
  (repeat (first | apply Exists.intro (α := Int) | apply Exists.intro (α := Bool) | apply Exists.intro (α := ByteArray) | (apply Exists.intro (α := Option Addr); apply Exists.intro (α := Nat); apply Exists.intro (α := Nat)) | apply Exists.intro (α := Option Addr) | apply Exists.intro (α := Value)))
  refine ⟨rfl, ?_⟩
  refine hk _ _ _ (srt_first hC hp (at0_get (by omega))) (srt_last hC hp ?_) h.drop.drop
  rw [← hCl]
  exact at0_get (by omega)
end
end Go.Br
