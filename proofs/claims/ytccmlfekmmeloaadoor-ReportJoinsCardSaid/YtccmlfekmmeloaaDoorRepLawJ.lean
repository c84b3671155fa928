/- The law of numbers that are joined. -/
import Derived.Test.YtccmlfekmmeloaaDoorNRepLawJ
import Derived.Test.YtccmlfekmmeloaaDoorRepLaw
set_option linter.unusedVariables false
set_option linter.unusedSimpArgs false
set_option linter.unnecessarySimpa false
namespace Go.Br
open Go
instance biRepLawJa : Bld PG (Instr.build 24 #[]) (.agg #[.int .i64 0, .int .i64 0, .int .i64 0, .int .i64 0]) := ⟨fun w => by kernel_rfl⟩
instance biRepLawJb : Zro PG 24 4 32 (.agg #[.int .i64 0, .int .i64 0, .int .i64 0, .int .i64 0]) := ⟨tiOf (by kernel_rfl)⟩
attribute [local irreducible] Addr.add RD RDS RUN RUNU NILC LETB CALL CALLX CALLV

theorem pct_between {l : List Int} (hl : l ≠ []) {part x y z : Int} (hx : IsPct l 0 x) (hy : IsPct l part y) (hz : IsPct l 100 z) : x ≤ y ∧ y ≤ z := by
  obtain ⟨C, hC, hp⟩ := ex_sorted l
  have h1 := hx.2 hl C hC hp
  have h2 := hy.2 hl C hC hp
  have h3 := hz.2 hl C hC hp
  have hpos := List.length_pos_iff.2 hl
  have e1 := pctI_lt hpos part
  have e2 : pctI l.length 0 = 0 := by unfold pctI; simp
  have e3 : pctI l.length 100 = l.length - 1 := by unfold pctI; simp; omega
  rw [e2] at h1
  rw [e3] at h3
  exact ⟨srt_le hC (Nat.zero_le _) h1 h2, srt_le hC (by omega) h2 h3⟩
section
variable {c : Ctx} {w : World} {L R : List SA} {A B : Option Addr} {k kb : Nat}
theorem joins_ok (h : St c w L) {l m : List Int} (hr : RdIn L A (l.flatMap iv)) (hrm : RdIn L B (m.flatMap iv)) {part : Int} {Q : Value → World → Prop} (hk : ∀ w', St c w' L → Q (.bool true) w') : CALL PG 5 [.slice A l.length k, .slice B m.length kb, .int .i64 part] w Q := by
  refine call5 ?_
  unfold N5
  refine ifd (fun _ => hk _ h) fun hl => ifd (fun _ => hk _ h) fun hm => ?_
  have hl : l.length ≤ 200 := by omega
  have hm : m.length ≤ 200 := by omega
  refine of_ok h hr (by omega) fun w' lo1 hi1 _ _ h => ?_
  (repeat (first | apply Exists.intro (α := Int) | apply Exists.intro (α := Bool) | apply Exists.intro (α := ByteArray) | (apply Exists.intro (α := Option Addr); apply Exists.intro (α := Nat); apply Exists.intro (α := Nat)) | apply Exists.intro (α := Option Addr) | apply Exists.intro (α := Value)))
  refine ⟨rfl, ?_⟩
  refine of_ok h hrm (by omega) fun w' lo2 hi2 _ _ h => ?_
  (repeat (first | apply Exists.intro (α := Int) | apply Exists.intro (α := Bool) | apply Exists.intro (α := ByteArray) | (apply Exists.intro (α := Option Addr); apply Exists.intro (α := Nat); apply Exists.intro (α := Nat)) | apply Exists.intro (α := Option Addr) | apply Exists.intro (α := Value)))
  refine ⟨rfl, ?_⟩
  refine h.allocZ fun p w' h => ?_
  refine h.allocZ fun q w' h => ?_
  refine h.stG (hp := .tail .head) fun w' h => ?_
  refine h.stG (hp := .tail .head) fun w' h => ?_
  refine h.lit (n := 0) 3 1 [] fun o w' h => ?_
  refine h.append huInts tiInt .head hr.more.more.more (m := l.length) (flat_length iv_length l) (iv_flat l) (by omega) fun O d w' h => ?_
  refine h.append huInts tiInt .head hrm.more.more.more (m := m.length) (flat_length iv_length m) (iv_flat m) (by omega) fun O d w' h => ?_
  rw [List.nil_append, ← List.flatMap_append] at h
  have en : 0 + l.length + m.length = (l ++ m).length := by simp
  rw [en] at h ⊢
  have hsum : sumI ((l ++ m).map clampI) = sumI (l.map clampI) + sumI (m.map clampI) := by rw [List.map_append, sumI_append]
  have hlen : ((l ++ m).length : Int) = (l.length : Int) + (m.length : Int) := by simp
  have b1 := sumI_bd l
  have b2 := sumI_bd m
  have b3 := sumI_bd (l ++ m)
  generalize l ++ m = a at *
  refine of_ok h (RdIn.own .head) (by omega) fun w' lo hi hlo hhi h => ?_
  (repeat (first | apply Exists.intro (α := Int) | apply Exists.intro (α := Bool) | apply Exists.intro (α := ByteArray) | (apply Exists.intro (α := Option Addr); apply Exists.intro (α := Nat); apply Exists.intro (α := Nat)) | apply Exists.intro (α := Option Addr) | apply Exists.intro (α := Value)))
  refine ⟨rfl, ?_⟩
  refine h.allocZ fun r w' h => ?_
  refine h.stG fun w' h => ?_
  have em : IntKind.i64.wrap ((l.length : Int) + (m.length : Int)) = (a.length : Int) := by rw [wrap_i64 (by omega) (by omega)]; omega
  have es : IntKind.i64.wrap (sumI (l.map clampI) + sumI (m.map clampI)) = sumI (a.map clampI) := by rw [wrap_i64 (by omega) (by omega)]; omega
  refine h.rdI 0 ?_
  refine h.rdI 0 ?_
  refine h.rdI 0 ?_
  refine ifn (fun e => absurd em.symm e) fun _ => ?_
  refine h.rdI 3 ?_
  refine h.rdI 3 ?_
  refine h.rdI 3 ?_
  refine ifn (fun e => absurd es.symm e) fun _ => ?_
  refine ifq (fun e => ?_) fun e => ?_
  · have ea : a = [] := List.length_eq_zero_iff.1 (by omega)
    subst ea
    have e1 := hlo.1 rfl
    have e2 := hhi.1 rfl
    subst e1
    subst e2
    refine h.rdG ?_
    (repeat (first | apply Exists.intro (α := Int) | apply Exists.intro (α := Bool) | apply Exists.intro (α := ByteArray) | (apply Exists.intro (α := Option Addr); apply Exists.intro (α := Nat); apply Exists.intro (α := Nat)) | apply Exists.intro (α := Option Addr) | apply Exists.intro (α := Value)))
    refine ⟨rfl, ?_⟩
    refine RD.bld ?_
    (repeat (first | apply Exists.intro (α := Int) | apply Exists.intro (α := Bool) | apply Exists.intro (α := ByteArray) | (apply Exists.intro (α := Option Addr); apply Exists.intro (α := Nat); apply Exists.intro (α := Nat)) | apply Exists.intro (α := Option Addr) | apply Exists.intro (α := Value)))
    refine ⟨rfl, ?_⟩
    refine RDB.eqN true ?_
    refine ift rfl ?_
    refine alive37_ok h fun w' h => ?_
    (repeat (first | apply Exists.intro (α := Int) | apply Exists.intro (α := Bool) | apply Exists.intro (α := ByteArray) | (apply Exists.intro (α := Option Addr); apply Exists.intro (α := Nat); apply Exists.intro (α := Nat)) | apply Exists.intro (α := Option Addr) | apply Exists.intro (α := Value)))
    refine ⟨rfl, ?_⟩
    exact letb rfl (hk _ h.drop.drop.drop.drop)
  have hne : a ≠ [] := fun e2 => e (by rw [e2]; rfl)
  have hal : a.length ≤ 400 := by omega
  refine pct_ok h (RdIn.own (.tail .head)) (by omega) fun w' x hx h => ?_
  (repeat (first | apply Exists.intro (α := Int) | apply Exists.intro (α := Bool) | apply Exists.intro (α := ByteArray) | (apply Exists.intro (α := Option Addr); apply Exists.intro (α := Nat); apply Exists.intro (α := Nat)) | apply Exists.intro (α := Option Addr) | apply Exists.intro (α := Value)))
  refine ⟨rfl, ?_⟩
  refine pct_ok h (RdIn.own (.tail .head)) (by omega) fun w' z hz h => ?_
  (repeat (first | apply Exists.intro (α := Int) | apply Exists.intro (α := Bool) | apply Exists.intro (α := ByteArray) | (apply Exists.intro (α := Option Addr); apply Exists.intro (α := Nat); apply Exists.intro (α := Nat)) | apply Exists.intro (α := Option Addr) | apply Exists.intro (α := Value)))
  refine ⟨rfl, ?_⟩
  refine leti rfl (leti rfl ?_)
  refine pct_ok h (RdIn.own (.tail .head)) (by omega) fun w' y hy h => ?_
  (repeat (first | apply Exists.intro (α := Int) | apply Exists.intro (α := Bool) | apply Exists.intro (α := ByteArray) | (apply Exists.intro (α := Option Addr); apply Exists.intro (α := Nat); apply Exists.intro (α := Nat)) | apply Exists.intro (α := Option Addr) | apply Exists.intro (α := Value)))
  refine ⟨rfl, ?_⟩
  refine leti rfl ?_
  obtain ⟨o1, o2⟩ := pct_between hne hx hy hz
  have hn0 : (0 : Int) < (a.length : Int) := by have := List.length_pos_iff.2 hne; omega
  have hmne : a.map clampI ≠ [] := fun e => hne (List.map_eq_nil_iff.1 e)
  have m1 : lo ≤ sumI (a.map clampI) / (a.length : Int) := by
    refine Int.le_ediv_of_mul_le hn0 ?_
    have := sumI_ge (hlo.2 hmne).2
    rwa [List.length_map] at this
  have m2 : sumI (a.map clampI) / (a.length : Int) ≤ hi := by
    refine Int.ediv_le_of_le_mul hn0 ?_
    have := sumI_le (hhi.2 hmne).2
    rwa [List.length_map] at this
  have m3 : lo ≤ hi := by omega
  have h := h.drew
  refine sat h ?_
  refine ifdt (by omega) (ifdt (by omega) ?_)
  refine St.rdsG ?_
  (repeat (first | apply Exists.intro (α := Int) | apply Exists.intro (α := Bool) | apply Exists.intro (α := ByteArray) | (apply Exists.intro (α := Option Addr); apply Exists.intro (α := Nat); apply Exists.intro (α := Nat)) | apply Exists.intro (α := Option Addr) | apply Exists.intro (α := Value)))
  refine ⟨rfl, ?_⟩
  refine St.rdsI 1 ?_
  have rg : 0 ≤ (a.length : Int) ∧ (a.length : Int) ≤ 1000000 := by omega
  have rs : -4611686018427387904 ≤ sumI (a.map clampI) ∧ sumI (a.map clampI) ≤ 4611686018427387904 := by omega
  refine mean_ok (s := ⟨_, _, _, _⟩) h rg rs fun w' h => ?_
  (repeat (first | apply Exists.intro (α := Int) | apply Exists.intro (α := Bool) | apply Exists.intro (α := ByteArray) | (apply Exists.intro (α := Option Addr); apply Exists.intro (α := Nat); apply Exists.intro (α := Nat)) | apply Exists.intro (α := Option Addr) | apply Exists.intro (α := Value)))
  refine ⟨rfl, ?_⟩
  refine sat1 h (fun _ h => h) ?_
  refine ifdt (by show lo ≤ (if (a.length : Int) = 0 then 0 else sumI (a.map clampI) / (a.length : Int)); rw [if_neg (by omega)]; exact m1) ?_
  refine St.rdsG ?_
  (repeat (first | apply Exists.intro (α := Int) | apply Exists.intro (α := Bool) | apply Exists.intro (α := ByteArray) | (apply Exists.intro (α := Option Addr); apply Exists.intro (α := Nat); apply Exists.intro (α := Nat)) | apply Exists.intro (α := Option Addr) | apply Exists.intro (α := Value)))
  refine ⟨rfl, ?_⟩
  refine St.rdsI 2 ?_
  refine mean_ok (s := ⟨_, _, _, _⟩) h rg rs fun w' h => ?_
  (repeat (first | apply Exists.intro (α := Int) | apply Exists.intro (α := Bool) | apply Exists.intro (α := ByteArray) | (apply Exists.intro (α := Option Addr); apply Exists.intro (α := Nat); apply Exists.intro (α := Nat)) | apply Exists.intro (α := Option Addr) | apply Exists.intro (α := Value)))
  refine ⟨rfl, ?_⟩
  refine sat1 h (fun _ h => h) ?_
  refine ifdt (by show (if (a.length : Int) = 0 then 0 else sumI (a.map clampI) / (a.length : Int)) ≤ hi; rw [if_neg (by omega)]; exact m2) ?_
  refine St.rdsI 1 ?_
  refine St.rdsI 2 ?_
  refine ifdt m3 ?_
  refine alive37_ok h fun w' h => ?_
  (repeat (first | apply Exists.intro (α := Int) | apply Exists.intro (α := Bool) | apply Exists.intro (α := ByteArray) | (apply Exists.intro (α := Option Addr); apply Exists.intro (α := Nat); apply Exists.intro (α := Nat)) | apply Exists.intro (α := Option Addr) | apply Exists.intro (α := Value)))
  refine ⟨rfl, ?_⟩
  exact letb rfl (hk _ h.drop.drop.drop.drop)
end
end Go.Br
