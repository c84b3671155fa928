/- RepPure, Rep, StrLib, RepTab, RepAlive -/
import Derived.Test.YtbmbimholikljaaDoorJPdq10
import Derived.Test.YtbmbimholikljaaDoorBrSeat
import Derived.Test.YtbmbimholikljaaDoorBrOwn
/- Numbers that are reckoned: the least, the greatest, the sum; a sorted row is the one and only. -/
set_option linter.unusedVariables false
set_option linter.unusedSimpArgs false
set_option linter.unnecessarySimpa false
namespace Go.Br
open Go
attribute [local irreducible] Addr.add RD RDS RUN RUNU NILC LETB CALL CALLX CALLV

def clampI (x : Int) : Int := if x < -1073741824 then -1073741824 else if 1073741824 < x then 1073741824 else x
theorem clampI_bd (x : Int) : -1073741824 ≤ clampI x ∧ clampI x ≤ 1073741824 := by unfold clampI; split <;> (try split) <;> omega
theorem clampI_mono {x y : Int} (h : x ≤ y) : clampI x ≤ clampI y := by unfold clampI; (repeat' split) <;> omega
/-- The least, the greatest of some numbers. -/
def lstS (j : Nat) (m x : Int) : Int := if j = 0 ∨ x < m then x else m
def mstS (j : Nat) (m x : Int) : Int := if j = 0 ∨ m < x then x else m
/-- It is the least one. -/
def IsLst (l : List Int) (m : Int) : Prop := (l = [] → m = 0) ∧ (l ≠ [] → m ∈ l ∧ ∀ x ∈ l, m ≤ x)
def IsMst (l : List Int) (m : Int) : Prop := (l = [] → m = 0) ∧ (l ≠ [] → m ∈ l ∧ ∀ x ∈ l, x ≤ m)
theorem IsLst.snoc {l : List Int} {m x : Int} (h : IsLst l m) : IsLst (l ++ [x]) (lstS l.length m x) := by
  refine ⟨fun e => by simp at e, fun _ => ?_⟩
  unfold lstS
  by_cases e : l = []
  · subst e; simp
  have h := h.2 e
  have : l.length ≠ 0 := fun h => e (List.length_eq_zero_iff.1 h)
  by_cases hx : x < m
  · rw [if_pos (.inr hx)]
    refine ⟨by simp, fun y hy => ?_⟩
    simp only [List.mem_append, List.mem_singleton] at hy
    rcases hy with hy | rfl
    · have := h.2 y hy; omega
    · omega
  · rw [if_neg (by omega)]
    refine ⟨by simp [h.1], fun y hy => ?_⟩
    simp only [List.mem_append, List.mem_singleton] at hy
    rcases hy with hy | rfl
    · exact h.2 y hy
    · omega
theorem IsMst.snoc {l : List Int} {m x : Int} (h : IsMst l m) : IsMst (l ++ [x]) (mstS l.length m x) := by
  refine ⟨fun e => by simp at e, fun _ => ?_⟩
  unfold mstS
  by_cases e : l = []
  · subst e; simp
  have h := h.2 e
  have : l.length ≠ 0 := fun h => e (List.length_eq_zero_iff.1 h)
  by_cases hx : m < x
  · rw [if_pos (.inr hx)]
    refine ⟨by simp, fun y hy => ?_⟩
    simp only [List.mem_append, List.mem_singleton] at hy
    rcases hy with hy | rfl
    · have := h.2 y hy; omega
    · omega
  · rw [if_neg (by omega)]
    refine ⟨by simp [h.1], fun y hy => ?_⟩
    simp only [List.mem_append, List.mem_singleton] at hy
    rcases hy with hy | rfl
    · exact h.2 y hy
    · omega
theorem IsLst.uniq {l : List Int} {m m' : Int} (h : IsLst l m) (h' : IsLst l m') : m = m' := by
  by_cases e : l = []
  · rw [h.1 e, h'.1 e]
  · have h1 := (h.2 e).2 m' (h'.2 e).1
    have h2 := (h'.2 e).2 m (h.2 e).1
    omega
theorem IsMst.uniq {l : List Int} {m m' : Int} (h : IsMst l m) (h' : IsMst l m') : m = m' := by
  by_cases e : l = []
  · rw [h.1 e, h'.1 e]
  · have h1 := (h.2 e).2 m' (h'.2 e).1
    have h2 := (h'.2 e).2 m (h.2 e).1
    omega
/-- The sum. -/
def sumI (l : List Int) : Int := l.foldr (fun x s => x + s) 0
theorem sumI_cons (x : Int) (l : List Int) : sumI (x :: l) = x + sumI l := rfl
theorem sumI_append : ∀ l m : List Int, sumI (l ++ m) = sumI l + sumI m
  | [], m => by simp [sumI]
  | x :: l, m => by rw [List.cons_append, sumI_cons, sumI_cons, sumI_append l m]; omega
theorem sumI_perm {l m : List Int} (h : l.Perm m) : sumI l = sumI m := by
  induction h with
  | nil => rfl
  | cons x _ ih => rw [sumI_cons, sumI_cons, ih]
  | swap x y l => simp only [sumI_cons]; omega
  | trans _ _ h1 h2 => rw [h1, h2]
theorem sumI_bd : ∀ l : List Int, -1073741824 * (l.length : Int) ≤ sumI (l.map clampI) ∧ sumI (l.map clampI) ≤ 1073741824 * (l.length : Int)
  | [] => by simp [sumI]
  | x :: l => by
    have h := sumI_bd l
    have hx := clampI_bd x
    rw [List.map_cons, sumI_cons, List.length_cons]
    omega
theorem sumI_ge {m : Int} : ∀ {l : List Int}, (∀ x ∈ l, m ≤ x) → m * (l.length : Int) ≤ sumI l
  | [], _ => by simp [sumI]
  | x :: l, h => by
    have h1 := h x (by simp)
    have h2 := sumI_ge (l := l) fun y hy => h y (by simp [hy])
    rw [sumI_cons, List.length_cons, Int.natCast_add, Int.mul_add]
    omega
theorem sumI_le {m : Int} : ∀ {l : List Int}, (∀ x ∈ l, x ≤ m) → sumI l ≤ m * (l.length : Int)
  | [], _ => by simp [sumI]
  | x :: l, h => by
    have h1 := h x (by simp)
    have h2 := sumI_le (l := l) fun y hy => h y (by simp [hy])
    rw [sumI_cons, List.length_cons, Int.natCast_add, Int.mul_add]
    omega
/-- There is but one sorted row of some numbers. -/
theorem srt_uniq : ∀ {A B : List Int}, Srt fI A → Srt fI B → A.Perm B → A = B
  | [], B, _, _, h => (List.Perm.nil_eq h)
  | a :: A, [], _, _, h => absurd (h.length_eq) (by simp)
  | a :: A, b :: B, hA, hB, h => by
    have a1 := List.pairwise_cons.1 hA
    have b1 := List.pairwise_cons.1 hB
    have e : a = b := by
      have h1 := h.mem_iff.1 (show a ∈ a :: A by simp)
      have h2 := h.mem_iff.2 (show b ∈ b :: B by simp)
      simp only [List.mem_cons] at h1 h2
      rcases h1 with h1 | h1
      · exact h1
      rcases h2 with h2 | h2
      · exact h2.symm
      have q1 := a1.1 b h2
      have q2 := b1.1 a h1
      unfold Le fI at q1 q2
      omega
    subst e
    rw [srt_uniq a1.2 b1.2 h.cons_inv]
/-- The first of a sorted row is the least one. -/
theorem srt_first {A l : List Int} {x : Int} (hA : Srt fI A) (hp : A.Perm l) (hx : A[0]? = some x) : IsLst (l.map clampI) (clampI x) := by
  cases A with
  | nil => simp at hx
  | cons a A =>
    simp at hx
    subst hx
    refine ⟨fun e => ?_, fun _ => ⟨List.mem_map.2 ⟨a, hp.mem_iff.1 (by simp), rfl⟩, fun y hy => ?_⟩⟩
    · rw [List.map_eq_nil_iff] at e
      subst e
      have := hp.length_eq
      simp at this
    · obtain ⟨z, hz, rfl⟩ := List.mem_map.1 hy
      have hz := hp.mem_iff.2 hz
      simp only [List.mem_cons] at hz
      rcases hz with rfl | hz
      · exact Int.le_refl _
      · have := (List.pairwise_cons.1 hA).1 z hz
        unfold Le fI at this
        exact clampI_mono (by omega)
theorem srt_last {A l : List Int} {x : Int} (hA : Srt fI A) (hp : A.Perm l) (hx : A[A.length - 1]? = some x) : IsMst (l.map clampI) (clampI x) := by
  rcases List.eq_nil_or_concat A with rfl | ⟨B, a, rfl⟩
  · simp at hx
  rw [List.concat_eq_append] at *
  simp at hx
  subst hx
  refine ⟨fun e => ?_, fun _ => ⟨List.mem_map.2 ⟨a, hp.mem_iff.1 (by simp), rfl⟩, fun y hy => ?_⟩⟩
  · rw [List.map_eq_nil_iff] at e
    subst e
    have := hp.length_eq
    simp at this
  · obtain ⟨z, hz, rfl⟩ := List.mem_map.1 hy
    have hz := hp.mem_iff.2 hz
    simp only [List.mem_append, List.mem_singleton] at hz
    rcases hz with hz | rfl
    · have := (List.pairwise_append.1 hA).2.2 z hz a (by simp)
      unfold Le fI at this
      exact clampI_mono (by omega)
    · exact Int.le_refl _
/-- Places of a sorted row rise. -/
theorem srt_le {A : List Int} (hA : Srt fI A) {i j : Nat} {x y : Int} (hij : i ≤ j) (hx : A[i]? = some x) (hy : A[j]? = some y) : x ≤ y := by
  rcases Nat.lt_or_eq_of_le hij with h | h
  · obtain ⟨hi, ei⟩ := List.getElem?_eq_some_iff.1 hx
    obtain ⟨hj, ej⟩ := List.getElem?_eq_some_iff.1 hy
    have := List.pairwise_iff_getElem.1 hA i j hi hj h
    rw [ei, ej] at this
    unfold Le fI at this
    omega
  · subst h
    rw [hx] at hy
    injection hy with hy
    omega
theorem srt_ins (x : Int) : ∀ {A : List Int}, Srt fI A → ∃ B, Srt fI B ∧ B.Perm (x :: A)
  | [], _ => ⟨[x], List.pairwise_singleton _ _, .refl _⟩
  | a :: A, h => by
    have h1 := List.pairwise_cons.1 h
    by_cases hx : x ≤ a
    · refine ⟨x :: a :: A, List.pairwise_cons.2 ⟨fun y hy => ?_, h⟩, .refl _⟩
      simp only [List.mem_cons] at hy
      unfold Le fI
      rcases hy with rfl | hy
      · omega
      · have := h1.1 y hy
        unfold Le fI at this
        omega
    · obtain ⟨B, hB, hp⟩ := srt_ins x h1.2
      refine ⟨a :: B, List.pairwise_cons.2 ⟨fun y hy => ?_, hB⟩, (hp.cons a).trans (List.Perm.swap x a A)⟩
      have hy := hp.mem_iff.1 hy
      simp only [List.mem_cons] at hy
      rcases hy with rfl | hy
      · unfold Le fI; omega
      · exact h1.1 y hy
theorem ex_sorted : ∀ l : List Int, ∃ C, Srt fI C ∧ C.Perm l
  | [] => ⟨[], List.Pairwise.nil, .refl _⟩
  | x :: l => by
    obtain ⟨A, hA, hp⟩ := ex_sorted l
    obtain ⟨B, hB, hq⟩ := srt_ins x hA
    exact ⟨B, hB, hq.trans (hp.cons x)⟩
/-- The place of so many of a hundred. -/
def pctI (n : Nat) (part : Int) : Nat := (((n : Int) * (if part < 0 then 0 else if 100 < part then 100 else part) + 99) / 100 - 1).toNat
theorem pctI_lt {n : Nat} (hn : 0 < n) (part : Int) : pctI n part < n := by
  unfold pctI
  split
  · omega
  · split <;> (generalize hp : (if 100 < part then (100 : Int) else part) = q; try omega)
    rename_i h1 h2
    have : (n : Int) * part ≤ (n : Int) * 100 := Int.mul_le_mul_of_nonneg_left (by omega) (by omega)
    omega
end Go.Br

/- What the code of some functions says, as the core reads it; each reading is checked by the kernel. -/
set_option linter.unusedVariables false
set_option maxRecDepth 100000
namespace Go.Br
open Go Go.Proofs

/-- brougham/report.clamp -/
def N10 (n : Int) (w : World) (Q : Value → World → Prop) : Prop :=
 LETI (minN (maxN n (-1073741824 : Int)) (1073741824 : Int)) fun x2 =>
 Q (.int .i64 x2) w
theorem eq10 : ∀ (n : Int) (w : World) (Q : Value → World → Prop), vcF PG TB Tryd.f10 .nil [(.int .i64 n)] w Q = N10 n w Q := by intros; kernel_rfl
theorem call10 {n : Int} {w : World} {Q : Value → World → Prop} (hN : N10 n w Q) : CALL PG 10 [(.int .i64 n)] w Q := calls_vc tabOk Tryd.func10 (by rw [eq10]; exact hN)

/-- brougham/broughamref37.Clamp -/
def N11 (n : Int) (w : World) (Q : Value → World → Prop) : Prop :=
 IFB (decide (n > (1073741824 : Int)))
 (Q (.int .i64 (1073741824 : Int)) w)
 (IFB (decide (n < (-1073741824 : Int)))
 (Q (.int .i64 (-1073741824 : Int)) w)
 (LETI n fun x2 =>
 Q (.int .i64 x2) w))
theorem eq11 : ∀ (n : Int) (w : World) (Q : Value → World → Prop), vcF PG TB Tryd.f11 .nil [(.int .i64 n)] w Q = N11 n w Q := by intros; kernel_rfl
theorem call11 {n : Int} {w : World} {Q : Value → World → Prop} (hN : N11 n w Q) : CALL PG 11 [(.int .i64 n)] w Q := calls_vc tabOk Tryd.func11 (by rw [eq11]; exact hN)

/-- brougham/report.Of -/
def N16 (l : Option Addr) (lN lC : Nat) (w : World) (Q : Value → World → Prop) : Prop :=
 RUNA PG (Instr.alloc 37 true (.tuple #[])) w fun a2 w1 =>
 RD PG (Instr.build 37 #[(0, (.int .i64 (lN : Int)))]) w1 fun v =>
 ∃ x8 : Int, ∃ x8v1 : Int, ∃ x8v2 : Int, ∃ x8v3 : Int, v = (.agg #[(.int .i64 x8), (.int .i64 x8v1), (.int .i64 x8v2), (.int .i64 x8v3)]) ∧
 (RUNA PG (Instr.alloc 37 true (.tuple #[])) w1 fun a3 w2 =>
 RUNU PG (storeVar 37 a3 (.agg #[(.int .i64 x8), (.int .i64 x8v1), (.int .i64 x8v2), (.int .i64 x8v3)])) w2 fun w3 =>
 ∃ I : Nat → Int → World → Prop,
 (∃ m, I m (0 : Int) w3) ∧
 (∀ m1 (x11 : Int) (w4 : World), I m1 x11 w4 → (IFB (decide (x11 < (lN : Int)))
 (IDX l lN x11 fun a14 =>
 RDI PG (loadVar 3 (Addr.add a14 (Int.toNat x11 * 1))) .i64 w4 fun x15 =>
 LETI x11 fun i =>
 LETI x15 fun n =>
 CALL PG 10 [(.int .i64 n)] w4 fun v1 w5 =>
 ∃ x17 : Int, v1 = (.int .i64 x17) ∧
 (LETI x17 fun n1 =>
 ∃ R : World → Prop,
 (IFB (i == (0 : Int))
 (RUNU PG (storeVar 3 (Addr.add a3 1) (.int .i64 n1)) w5 fun w6 =>
 R w6)
 (RDI PG (loadVar 3 (Addr.add a3 1)) .i64 w5 fun x23 =>
 IFB (decide (n1 < x23))
 (RUNU PG (storeVar 3 (Addr.add a3 1) (.int .i64 n1)) w5 fun w7 =>
 R w7)
 (R w5))) ∧
 (∀  (w8 : World), R w8 → (IFB (i == (0 : Int))
 (RUNU PG (storeVar 3 (Addr.add a3 2) (.int .i64 n1)) w8 fun w9 =>
 RDI PG (loadVar 3 (Addr.add a3 3)) .i64 w9 fun x39 =>
 RUNU PG (storeVar 3 (Addr.add a3 3) (.int .i64 (IntKind.i64.wrap (x39 + n1)))) w9 fun w10 =>
 ∃ m2, m2 < m1 ∧ I m2 (IntKind.i64.wrap (x11 + (1 : Int))) w10)
 (RDI PG (loadVar 3 (Addr.add a3 2)) .i64 w8 fun x33 =>
 IFB (decide (n1 > x33))
 (RUNU PG (storeVar 3 (Addr.add a3 2) (.int .i64 n1)) w8 fun w11 =>
 RDI PG (loadVar 3 (Addr.add a3 3)) .i64 w11 fun x39v1 =>
 RUNU PG (storeVar 3 (Addr.add a3 3) (.int .i64 (IntKind.i64.wrap (x39v1 + n1)))) w11 fun w12 =>
 ∃ m3, m3 < m1 ∧ I m3 (IntKind.i64.wrap (x11 + (1 : Int))) w12)
 (RDI PG (loadVar 3 (Addr.add a3 3)) .i64 w8 fun x39v2 =>
 RUNU PG (storeVar 3 (Addr.add a3 3) (.int .i64 (IntKind.i64.wrap (x39v2 + n1)))) w8 fun w13 =>
 ∃ m4, m4 < m1 ∧ I m4 (IntKind.i64.wrap (x11 + (1 : Int))) w13))))))
 (RD PG (loadVar 37 a3) w4 fun v2 =>
 ∃ x44 : Int, ∃ x44v1 : Int, ∃ x44v2 : Int, ∃ x44v3 : Int, v2 = (.agg #[(.int .i64 x44), (.int .i64 x44v1), (.int .i64 x44v2), (.int .i64 x44v3)]) ∧
 (RUNU PG (storeVar 37 a2 (.agg #[(.int .i64 x44), (.int .i64 x44v1), (.int .i64 x44v2), (.int .i64 x44v3)])) w4 fun w14 =>
 RD PG (loadVar 37 a2) w14 fun v4 =>
 ∃ r : Int, ∃ r1 : Int, ∃ r2 : Int, ∃ r3 : Int, v4 = (.agg #[(.int .i64 r), (.int .i64 r1), (.int .i64 r2), (.int .i64 r3)]) ∧
 (Q (.agg #[(.int .i64 r), (.int .i64 r1), (.int .i64 r2), (.int .i64 r3)]) w14))))))
theorem eq16 : ∀ (l : Option Addr) (lN lC : Nat) (w : World) (Q : Value → World → Prop), vcF PG TB Tryd.f16 (.s .nil (.s .nil (.s (.s .nil (.u (.loop [(11, 3)] (.s .nil (.s .nil (.s (.u (.s .nil (.s .nil (.cut [] .nil .nil)))) .nil)))))) .nil))) [(.slice l lN lC)] w Q = N16 l lN lC w Q := by intros; kernel_rfl
theorem call16 {l : Option Addr} {lN lC : Nat} {w : World} {Q : Value → World → Prop} (hN : N16 l lN lC w Q) : CALL PG 16 [(.slice l lN lC)] w Q := calls_vc tabOk Tryd.func16 (by rw [eq16]; exact hN)

/-- (brougham/report.Stats).Mean -/
def N17 (s : Int) (s1 : Int) (s2 : Int) (s3 : Int) (w : World) (Q : Value → World → Prop) : Prop :=
 RUNA PG (Instr.box 37 (.agg #[(.int .i64 s), (.int .i64 s1), (.int .i64 s2), (.int .i64 s3)])) w fun a1 w1 =>
 RDI PG (loadVar 3 (Addr.add a1 0)) .i64 w1 fun x5 =>
 IFB (x5 == (0 : Int))
 (Q (.int .i64 (0 : Int)) w1)
 (RDI PG (loadVar 3 (Addr.add a1 3)) .i64 w1 fun x8 =>
 RDI PG (loadVar 3 (Addr.add a1 0)) .i64 w1 fun x10 =>
 NEED (x10 ≠ 0)
 (LETI (IntKind.i64.wrap (Int.tdiv x8 x10)) fun m =>
 RDI PG (loadVar 3 (Addr.add a1 3)) .i64 w1 fun x13 =>
 RDI PG (loadVar 3 (Addr.add a1 0)) .i64 w1 fun x15 =>
 NEED (x15 ≠ 0)
 (IFB (decide ((Int.tmod x13 x15) < (0 : Int)))
 (LETI (IntKind.i64.wrap (m - (1 : Int))) fun m1 =>
 LETI m1 fun x2 =>
 Q (.int .i64 x2) w1)
 (LETI m fun x2v1 =>
 Q (.int .i64 x2v1) w1))))
theorem eq17 : ∀ (s : Int) (s1 : Int) (s2 : Int) (s3 : Int) (w : World) (Q : Value → World → Prop), vcF PG TB Tryd.f17 .nil [(.agg #[(.int .i64 s), (.int .i64 s1), (.int .i64 s2), (.int .i64 s3)])] w Q = N17 s s1 s2 s3 w Q := by intros; kernel_rfl
theorem call17 {s : Int} {s1 : Int} {s2 : Int} {s3 : Int} {w : World} {Q : Value → World → Prop} (hN : N17 s s1 s2 s3 w Q) : CALL PG 17 [(.agg #[(.int .i64 s), (.int .i64 s1), (.int .i64 s2), (.int .i64 s3)])] w Q := calls_vc tabOk Tryd.func17 (by rw [eq17]; exact hN)

/-- brougham/report.Percentile -/
def N18 (part : Int) (l : Option Addr) (lN lC : Nat) (w : World) (Q : Value → World → Prop) : Prop :=
 IFB ((lN : Int) == (0 : Int))
 (Q (.int .i64 (0 : Int)) w)
 (CALL PG 27 [(.slice l lN lC)] w fun v w1 =>
 ∃ (x11 : Option Addr) (x11N x11C : Nat), v = (.slice x11 x11N x11C) ∧
 (CALL PG 28 [(.slice x11 x11N x11C)] w1 fun v1 w2 =>
 v1 = (.tuple #[]) ∧
 (LETI (minN (maxN part (0 : Int)) (100 : Int)) fun part1 =>
 NEED ((100 : Int) ≠ 0)
 (LETI (IntKind.i64.wrap (Int.tdiv (IntKind.i64.wrap ((IntKind.i64.wrap ((x11N : Int) * part1)) + (99 : Int))) (100 : Int))) fun i =>
 IDX x11 x11N (maxN (IntKind.i64.wrap (i - (1 : Int))) (0 : Int)) fun a27 =>
 RDI PG (loadVar 3 (Addr.add a27 (Int.toNat (maxN (IntKind.i64.wrap (i - (1 : Int))) (0 : Int)) * 1))) .i64 w2 fun x28 =>
 LETI x28 fun x4 =>
 Q (.int .i64 x4) w2))))
theorem eq18 : ∀ (part : Int) (l : Option Addr) (lN lC : Nat) (w : World) (Q : Value → World → Prop), vcF PG TB Tryd.f18 .nil [(.int .i64 part), (.slice l lN lC)] w Q = N18 part l lN lC w Q := by intros; kernel_rfl
theorem call18 {part : Int} {l : Option Addr} {lN lC : Nat} {w : World} {Q : Value → World → Prop} (hN : N18 part l lN lC w Q) : CALL PG 18 [(.int .i64 part), (.slice l lN lC)] w Q := calls_vc tabOk Tryd.func18 (by rw [eq18]; exact hN)

/-- slices.Clone[[]int,int] -/
def N27 (s : Option Addr) (sN sC : Nat) (w : World) (Q : Value → World → Prop) : Prop :=
 IFB (s.isNone)
 (Q (.slice none 0 0) w)
 (RUNL PG (Instr.buildSlice 22 0 #[]) w fun x5 x5N x5C w1 =>
 RUNL PG (Builtin.append_ #[22, 22] 22 #[(.slice x5 x5N x5C), (.slice s sN sC)]) w1 fun x7 x7N x7C w2 =>
 Q (.slice x7 x7N x7C) w2)
theorem eq27 : ∀ (s : Option Addr) (sN sC : Nat) (w : World) (Q : Value → World → Prop), vcF PG TB Tryd.f27 .nil [(.slice s sN sC)] w Q = N27 s sN sC w Q := by intros; kernel_rfl
theorem call27 {s : Option Addr} {sN sC : Nat} {w : World} {Q : Value → World → Prop} (hN : N27 s sN sC w Q) : CALL PG 27 [(.slice s sN sC)] w Q := calls_vc tabOk Tryd.func27 (by rw [eq27]; exact hN)

end Go.Br

/- Numbers that are reckoned: what a call of each function does, of the program and of the document. -/
set_option linter.unusedVariables false
set_option linter.unusedSimpArgs false
set_option linter.unnecessarySimpa false
namespace Go.Br
open Go
instance biRepa (x0 : Int) : Bld PG (Instr.build 37 #[(0, .int .i64 x0)]) (.agg #[.int .i64 x0, .int .i64 0, .int .i64 0, .int .i64 0]) := ⟨fun w => by kernel_rfl⟩
instance biRepb : Zro PG 37 4 32 (.agg #[.int .i64 0, .int .i64 0, .int .i64 0, .int .i64 0]) := ⟨tiOf (by kernel_rfl)⟩
attribute [local irreducible] Addr.add RD RDS RUN RUNU NILC LETB CALL CALLX CALLV

structure Stt where
  many : Int
  least : Int
  most : Int
  sum : Int
def stt (x : Stt) : List Value := [.int .i64 x.many, .int .i64 x.least, .int .i64 x.most, .int .i64 x.sum]
abbrev sttv (x : Stt) : Value := .agg #[.int .i64 x.many, .int .i64 x.least, .int .i64 x.most, .int .i64 x.sum]
theorem stt_length (x : Stt) : (stt x).length = 4 := rfl
theorem stt_flat1 (x : Stt) : Flat (stt x) := by intro v hv; simp [stt] at hv; rcases hv with rfl | rfl | rfl | rfl <;> rfl
theorem stt_flat (L : List Stt) : Flat (L.flatMap stt) := by
  intro v hv
  simp only [List.mem_flatMap] at hv
  obtain ⟨x, _, hx⟩ := hv
  exact stt_flat1 x v hx
theorem tiinC : TI PG 3 1 8 (.int .i64 0) := tiOf (by kernel_rfl)
theorem huinC : PG.underlying 22 = some (.slice 3) := by kernel_rfl
theorem inclone_ok {c : Ctx} {w : World} {L : List SA} (h : St c w L) {A : Option Addr} {k : Nat} {S : List Int} (hr : RdIn L A (S.flatMap iv)) (hl : S.length ≤ 100000) {Q : Value → World → Prop}
    (hk : ∀ O d w', St c w' (own 3 1 O S.length d (S.flatMap iv) :: L) → Q (.slice O S.length d) w') : CALL PG 27 [.slice A S.length k] w Q := by
  refine call27 ?_
  unfold N27
  refine ifb (fun hn => ?_) fun hn => ?_
  · have hA : A = none := by simpa using hn
    subst hA
    have e := (hr c w h).none
    have hS : S = [] := by
      have := congrArg List.length e
      rw [flat_length iv_length, List.length_nil] at this
      exact List.length_eq_zero_iff.1 (by omega)
    subst hS
    exact hk none 0 _ (h.addOwnNil _ _)
  · refine h.lit (n := 0) 3 1 [] fun q w' h => ?_
    refine h.append huinC tiinC .head hr.more (m := S.length) (flat_length iv_length S) (iv_flat S) (by omega) fun O d w' h => ?_
    simp only [Nat.zero_add, List.nil_append] at h ⊢
    exact hk O d _ h
theorem mean_eq {s n : Int} (hn : 0 < n) : (if Int.tmod s n < 0 then Int.tdiv s n - 1 else Int.tdiv s n) = s / n := by
  rcases Int.lt_or_le s 0 with h | h
  · obtain ⟨m, rfl⟩ : ∃ m, s = -m := ⟨-s, by omega⟩
    have hm : 0 ≤ m := by omega
    rw [Int.neg_tmod, Int.neg_tdiv, Int.tdiv_eq_ediv_of_nonneg hm, Int.tmod_eq_emod_of_nonneg hm]
    have e1 := Int.emod_add_mul_ediv m n
    have e2 := Int.emod_nonneg m (show n ≠ 0 by omega)
    have e3 := Int.emod_lt_of_pos m hn
    split
    · refine ((Int.ediv_emod_unique hn (q := -(m / n) - 1) (r := n - m % n)).2 ⟨?_, by omega, by omega⟩).1.symm
      rw [Int.mul_sub, Int.mul_neg]; omega
    · refine ((Int.ediv_emod_unique hn (q := -(m / n)) (r := 0)).2 ⟨?_, by omega, by omega⟩).1.symm
      rw [Int.mul_neg]; omega
  · rw [Int.tdiv_eq_ediv_of_nonneg h, Int.tmod_eq_emod_of_nonneg h, if_neg]
    have := Int.emod_nonneg s (show n ≠ 0 by omega)
    omega
section
variable {c : Ctx} {w : World} {L R : List SA} {A : Option Addr} {k : Nat}
theorem St.rowR {n : Nat} {D : List Int} {K : Int → Prop} (h : St c w L) (hr : RdIn L A (D.flatMap iv)) (hn : D.length = n) {i : Nat} (hi : i < n) (hk : K (at0 D i)) :
    IDX A n (i : Int) fun a => RDI PG (loadVar 3 (Addr.add a (Int.toNat (i : Int) * 1))) .i64 w K :=
  h.ix (z := 0) hr (at0_get (by omega)) (fun a ha => by subst ha; exact h.rdWI hr (at0_get (by omega)) hk) hi
theorem clamp_ok {x : Int} {Q : Value → World → Prop} (hk : Q (.int .i64 (clampI x)) w) : CALL PG 10 [.int .i64 x] w Q := by
  refine call10 ?_
  unfold N10
  exact leti (by unfold minN maxN clampI; (repeat' split) <;> omega) hk
theorem rclamp_ok {x : Int} {Q : Value → World → Prop} (hk : Q (.int .i64 (clampI x)) w) : CALL PG 11 [.int .i64 x] w Q := by
  refine call11 ?_
  unfold N11
  refine ifd (fun h1 => ?_) fun h1 => ifd (fun h2 => ?_) fun h2 => leti rfl ?_
  · rwa [show clampI x = 1073741824 by unfold clampI; rw [if_neg (by omega), if_pos (by omega)]] at hk
  · rwa [show clampI x = -1073741824 by unfold clampI; rw [if_pos (by omega)]] at hk
  · rwa [show clampI x = x by unfold clampI; rw [if_neg (by omega), if_neg (by omega)]] at hk
theorem take_map_snoc {l : List Int} {j : Nat} (h : j < l.length) : (l.take (j + 1)).map clampI = (l.take j).map clampI ++ [clampI (at0 l j)] := by
  rw [take_snoc' (at0_get h), List.map_append]; rfl
theorem of_ok (h : St c w L) {l : List Int} (hr : RdIn L A (l.flatMap iv)) (hl : l.length ≤ 100000) {Q : Value → World → Prop}
    (hk : ∀ w' lo hi, IsLst (l.map clampI) lo → IsMst (l.map clampI) hi → St c w' L → Q (sttv ⟨l.length, lo, hi, sumI (l.map clampI)⟩) w') : CALL PG 16 [.slice A l.length k] w Q := by
  refine call16 ?_
  unfold N16
  refine h.allocZ fun p w' h => ?_
  refine RD.bld ?_
  (repeat (first | apply Exists.intro (α := Int) | apply Exists.intro (α := Bool) | apply Exists.intro (α := ByteArray) | (apply Exists.intro (α := Option Addr); apply Exists.intro (α := Nat); apply Exists.intro (α := Nat)) | apply Exists.intro (α := Option Addr) | apply Exists.intro (α := Value)))
  refine ⟨rfl, ?_⟩
  refine h.allocZ fun q w' h => ?_
  refine h.stG fun w' h => ?_
  refine ⟨fun m x w' => ∃ (j : Nat) (lo hi : Int), x = j ∧ m = l.length - j ∧ j ≤ l.length ∧ IsLst ((l.take j).map clampI) lo ∧ IsMst ((l.take j).map clampI) hi ∧
    St c w' (blk q 37 (stt ⟨l.length, lo, hi, sumI ((l.take j).map clampI)⟩) :: blk p 37 (stt ⟨0, 0, 0, 0⟩) :: L), ⟨_, 0, 0, 0, rfl, rfl, by omega, ⟨fun _ => rfl, fun e => absurd rfl e⟩, ⟨fun _ => rfl, fun e => absurd rfl e⟩, h⟩, ?_⟩
  clear h
  rintro m _ w' ⟨j, lo, hi, rfl, rfl, hj, hlo, hhi, h⟩
  refine ifd (fun hlt => ?_) fun hge => ?_
  rotate_left
  · have ej : j = l.length := by omega
    rw [ej, List.take_length] at h hlo hhi
    refine h.rdG ?_
    (repeat (first | apply Exists.intro (α := Int) | apply Exists.intro (α := Bool) | apply Exists.intro (α := ByteArray) | (apply Exists.intro (α := Option Addr); apply Exists.intro (α := Nat); apply Exists.intro (α := Nat)) | apply Exists.intro (α := Option Addr) | apply Exists.intro (α := Value)))
    refine ⟨rfl, ?_⟩
    have h := h.swap
    refine h.stG fun w' h => ?_
    refine h.rdG ?_
    (repeat (first | apply Exists.intro (α := Int) | apply Exists.intro (α := Bool) | apply Exists.intro (α := ByteArray) | (apply Exists.intro (α := Option Addr); apply Exists.intro (α := Nat); apply Exists.intro (α := Nat)) | apply Exists.intro (α := Option Addr) | apply Exists.intro (α := Value)))
    refine ⟨rfl, ?_⟩
    exact hk _ lo hi hlo hhi h.drop.drop
  refine h.rowR hr.more.more rfl (by omega) (leti rfl (leti rfl ?_))
  refine clamp_ok ?_
  (repeat (first | apply Exists.intro (α := Int) | apply Exists.intro (α := Bool) | apply Exists.intro (α := ByteArray) | (apply Exists.intro (α := Option Addr); apply Exists.intro (α := Nat); apply Exists.intro (α := Nat)) | apply Exists.intro (α := Option Addr) | apply Exists.intro (α := Value)))
  refine ⟨rfl, ?_⟩
  refine leti rfl ?_
  have ll : (((l.take j).map clampI)).length = j := by rw [List.length_map, List.length_take]; omega
  have nx : IntKind.i64.wrap ((j : Int) + 1) = ((j + 1 : Nat) : Int) := by rw [wrap_i64 (by omega) (by omega)]; omega
  have hlo' := hlo.snoc (x := clampI (at0 l j))
  have hhi' := hhi.snoc (x := clampI (at0 l j))
  rw [ll, ← take_map_snoc (by omega)] at hlo' hhi'
  have hsum : sumI ((l.take (j + 1)).map clampI) = sumI ((l.take j).map clampI) + clampI (at0 l j) := by rw [take_map_snoc (by omega), sumI_append]; simp [sumI]
  have hbd := sumI_bd (l.take j)
  have hcl := clampI_bd (at0 l j)
  rw [List.length_take] at hbd
  have ews : IntKind.i64.wrap (sumI ((l.take j).map clampI) + clampI (at0 l j)) = sumI ((l.take (j + 1)).map clampI) := by rw [hsum, wrap_i64 (by omega) (by omega)]
  refine ⟨fun w' => St c w' (blk q 37 (stt ⟨l.length, lstS j lo (clampI (at0 l j)), hi, sumI ((l.take j).map clampI)⟩) :: blk p 37 (stt ⟨0, 0, 0, 0⟩) :: L), ?_, ?_⟩
  · refine ifq (fun h0 => ?_) fun h0 => ?_
    · rw [show lstS j lo (clampI (at0 l j)) = clampI (at0 l j) by unfold lstS; rw [if_pos (.inl (by omega))]]
      exact h.st 1 fun w' h => h
    · refine h.rdI 1 ?_
      refine ifd (fun h1 => ?_) fun h1 => ?_
      · rw [show lstS j lo (clampI (at0 l j)) = clampI (at0 l j) by unfold lstS; rw [if_pos (.inr h1)]]
        exact h.st 1 fun w' h => h
      · rw [show lstS j lo (clampI (at0 l j)) = lo by unfold lstS; rw [if_neg (fun e => e.elim (fun e => h0 (by omega)) h1)]]
        exact h
  clear h
  intro w' h
  have fin : ∀ w', St c w' (blk q 37 (stt ⟨l.length, lstS j lo (clampI (at0 l j)), mstS j hi (clampI (at0 l j)), sumI ((l.take j).map clampI)⟩) :: blk p 37 (stt ⟨0, 0, 0, 0⟩) :: L) →
      RDI PG (loadVar 3 (Addr.add ⟨q, 0, none⟩ 3)) .i64 w' fun x => RUNU PG (storeVar 3 (Addr.add ⟨q, 0, none⟩ 3) (.int .i64 (IntKind.i64.wrap (x + clampI (at0 l j))))) w' fun w'' =>
      ∃ m', m' < l.length - j ∧ ∃ (j' : Nat) (lo hi : Int), IntKind.i64.wrap ((j : Int) + 1) = j' ∧ m' = l.length - j' ∧ j' ≤ l.length ∧ IsLst ((l.take j').map clampI) lo ∧ IsMst ((l.take j').map clampI) hi ∧
      St c w'' (blk q 37 (stt ⟨l.length, lo, hi, sumI ((l.take j').map clampI)⟩) :: blk p 37 (stt ⟨0, 0, 0, 0⟩) :: L) := fun w' h => by
    refine h.rdI 3 ?_
    refine h.st 3 fun w' h => ?_
    rw [ews] at h
    exact ⟨_, by omega, j + 1, _, _, nx, rfl, by omega, hlo', hhi', h⟩
  refine ifq (fun h0 => ?_) fun h0 => ?_
  · refine h.st 2 fun w' h => fin w' ?_
    rw [show mstS j hi (clampI (at0 l j)) = clampI (at0 l j) by unfold mstS; rw [if_pos (.inl (by omega))]]
    exact h
  · refine h.rdI 2 ?_
    refine ifd (fun h1 => ?_) fun h1 => fin w' ?_
    · refine h.st 2 fun w' h => fin w' ?_
      rw [show mstS j hi (clampI (at0 l j)) = clampI (at0 l j) by unfold mstS; rw [if_pos (.inr h1)]]
      exact h
    · rw [show mstS j hi (clampI (at0 l j)) = hi by unfold mstS; rw [if_neg (fun e => e.elim (fun e => h0 (by omega)) h1)]]
      exact h
theorem mean_ok (h : St c w L) {s : Stt} (hm : 0 ≤ s.many ∧ s.many ≤ 1000000) (hs : -4611686018427387904 ≤ s.sum ∧ s.sum ≤ 4611686018427387904) {Q : Value → World → Prop}
    (hk : ∀ w', St c w' L → Q (.int .i64 (if s.many = 0 then 0 else s.sum / s.many)) w') : CALL PG 17 [sttv s] w Q := by
  refine call17 ?_
  unfold N17
  refine h.box fun p w' h => ?_
  refine h.rdI 0 ?_
  refine ifq (fun e => ?_) fun e => ?_
  · have := hk _ h.drop
    rw [if_pos e] at this
    exact this
  have hk := fun w' h => hk w' h
  simp only [if_neg e] at hk
  have hb : -4611686018427387904 ≤ Int.tdiv s.sum s.many ∧ Int.tdiv s.sum s.many ≤ 4611686018427387904 := by
    have h1 := Int.natAbs_tdiv_le_natAbs s.sum s.many
    omega
  refine h.rdI 3 ?_
  refine h.rdI 0 ?_
  refine ⟨e, leti (wrap_i64 (by omega) (by omega)) ?_⟩
  refine h.rdI 3 ?_
  refine h.rdI 0 ?_
  have em := mean_eq (s := s.sum) (n := s.many) (by omega)
  refine ⟨e, ifd (fun hlt => ?_) fun hge => ?_⟩
  · rw [if_pos hlt] at em
    refine leti (wrap_i64 (by omega) (by omega)) (leti em (hk _ h.drop))
  · rw [if_neg hge] at em
    exact leti em (hk _ h.drop)
/-- The number below which so many of a hundred lie. -/
def IsPct (l : List Int) (part x : Int) : Prop := (l = [] → x = 0) ∧ (l ≠ [] → ∀ C, Srt fI C → C.Perm l → C[pctI l.length part]? = some x)
theorem IsPct.uniq {l : List Int} {part x y : Int} (h : IsPct l part x) (h' : IsPct l part y) {C : List Int} (hC : Srt fI C) (hp : C.Perm l) : x = y := by
  by_cases e : l = []
  · rw [h.1 e, h'.1 e]
  · have h1 := h.2 e C hC hp
    have h2 := h'.2 e C hC hp
    rw [h1] at h2
    injection h2
theorem IsPct.of {l C : List Int} {part : Int} (hl : l ≠ []) (hC : Srt fI C) (hp : C.Perm l) : IsPct l part (at0 C (pctI l.length part)) := ⟨fun e => absurd e hl, fun _ C' hC' hp' => by
  rw [srt_uniq hC' hC (hp'.trans hp.symm)]
  exact at0_get (by rw [hp.length_eq]; exact pctI_lt (List.length_pos_iff.2 hl) part)⟩
theorem part_eq (part : Int) : minN (maxN part 0) 100 = (if part < 0 then 0 else if 100 < part then 100 else part) := by unfold minN maxN; (repeat' split) <;> omega
theorem pct_ok (h : St c w L) {l : List Int} (hr : RdIn L A (l.flatMap iv)) (hl : l.length ≤ 100000) {part : Int} {Q : Value → World → Prop}
    (hk : ∀ w' x, IsPct l part x → St c w' L → Q (.int .i64 x) w') : CALL PG 18 [.int .i64 part, .slice A l.length k] w Q := by
  refine call18 ?_
  unfold N18
  refine ifq (fun e => hk _ 0 ⟨fun _ => rfl, fun e2 => absurd (List.length_eq_zero_iff.1 (by omega)) e2⟩ h) fun e => ?_
  have hne : l ≠ [] := fun e2 => e (by rw [e2]; rfl)
  have hpos := List.length_pos_iff.2 hne
  refine inclone_ok h hr hl fun O d w' h => ?_
  (repeat (first | apply Exists.intro (α := Int) | apply Exists.intro (α := Bool) | apply Exists.intro (α := ByteArray) | (apply Exists.intro (α := Option Addr); apply Exists.intro (α := Nat); apply Exists.intro (α := Nat)) | apply Exists.intro (α := Option Addr) | apply Exists.intro (α := Value)))
  refine ⟨rfl, ?_⟩
  refine sortN_ok rfl (by omega) h fun w' C hC hp h => ⟨rfl, ?_⟩
  refine leti (part_eq part) ⟨by decide, ?_⟩
  have hz : 0 ≤ (l.length : Int) * (if part < 0 then 0 else if 100 < part then 100 else part) ∧ (l.length : Int) * (if part < 0 then 0 else if 100 < part then 100 else part) ≤ (l.length : Int) * 100 :=
    ⟨Int.mul_nonneg (by omega) (by split <;> (try split) <;> omega), Int.mul_le_mul_of_nonneg_left (by split <;> (try split) <;> omega) (by omega)⟩
  have hpc := pctI_lt hpos part
  have hpd : pctI l.length part = (((l.length : Int) * (if part < 0 then 0 else if 100 < part then 100 else part) + 99) / 100 - 1).toNat := rfl
  generalize hzz : (l.length : Int) * (if part < 0 then 0 else if 100 < part then 100 else part) = z at *
  refine leti (y := (z + 99) / 100) (by rw [wrap_i64 (n := z) (by omega) (by omega), wrap_i64 (n := z + 99) (by omega) (by omega), Int.tdiv_eq_ediv_of_nonneg (by omega), wrap_i64 (by omega) (by omega)]) ?_
  have ei : maxN (IntKind.i64.wrap ((z + 99) / 100 - 1)) 0 = ((pctI l.length part : Nat) : Int) := by
    rw [wrap_i64 (by omega) (by omega), hpd]
    unfold maxN
    split <;> omega
  rw [ei]
  refine h.rowR (RdIn.own .head) (by rw [hp.length_eq]) hpc (leti rfl (hk _ _ (.of hne hC hp) h.drop))
end
end Go.Br

/- What the code of some functions says, as the core reads it; each reading is checked by the kernel. -/
set_option linter.unusedVariables false
set_option maxRecDepth 100000
namespace Go.Br
open Go Go.Proofs

/-- strings.Repeat -/
def N14 (s : ByteArray) (count : Int) (w : World) (Q : Value → World → Prop) : Prop :=
 LETB (count == (0 : Int)) fun x12 =>
 IFB x12
 (Q (.string (ByteArray.mk #[])) w)
 (LETB (count == (1 : Int)) fun x14 =>
 IFB x14
 (LETS s fun x4 =>
 Q (.string x4) w)
 (∃ R : World → Prop,
 (IFB (decide (count < (0 : Int)))
 (RD PG (Instr.makeInterface 9 (.string (ByteArray.mk #[115, 116, 114, 105, 110, 103, 115, 58, 32, 110, 101, 103, 97, 116, 105, 118, 101, 32, 82, 101, 112, 101, 97, 116, 32, 99, 111, 117, 110, 116]))) w fun v =>
 ∃ x19 : Value, v = x19 ∧
 (False))
 (R w)) ∧
 (∀  (w1 : World), R w1 → (CALL PG 21 [(.int .u64 (IntKind.u64.wrap ((s.size : Nat) : Int))), (.int .u64 (IntKind.u64.wrap count))] w1 fun v1 w2 =>
 ∃ x26 : Int, ∃ x26v1 : Int, v1 = (.tuple #[(.int .u64 x26), (.int .u64 x26v1)]) ∧
 (LETI x26 fun hi =>
 LETI x26v1 fun lo =>
 ∃ R1 : World → Prop,
 (IFB (decide (hi > (0 : Int)))
 (RD PG (Instr.makeInterface 9 (.string (ByteArray.mk #[115, 116, 114, 105, 110, 103, 115, 58, 32, 82, 101, 112, 101, 97, 116, 32, 111, 117, 116, 112, 117, 116, 32, 108, 101, 110, 103, 116, 104, 32, 111, 118, 101, 114, 102, 108, 111, 119]))) w2 fun v2 =>
 ∃ x35 : Value, v2 = x35 ∧
 (False))
 (IFB (decide (lo > (9223372036854775807 : Int)))
 (RD PG (Instr.makeInterface 9 (.string (ByteArray.mk #[115, 116, 114, 105, 110, 103, 115, 58, 32, 82, 101, 112, 101, 97, 116, 32, 111, 117, 116, 112, 117, 116, 32, 108, 101, 110, 103, 116, 104, 32, 111, 118, 101, 114, 102, 108, 111, 119]))) w2 fun v3 =>
 ∃ x35v1 : Value, v3 = x35v1 ∧
 (False))
 (R1 w2))) ∧
 (∀  (w3 : World), R1 w3 → (LETI (IntKind.i64.wrap lo) fun n =>
 IFB (((s.size : Nat) : Int) == (0 : Int))
 (Q (.string (ByteArray.mk #[])) w3)
 (∃ R2 : World → Prop,
 (NEED (0 ≤ (0 : Int) ∧ (0 : Int) < s.size)
 (∃ R3 : Bool → World → Prop,
 (LETB ((sbyte s (0 : Int)) == (32 : Int)) fun x43 =>
 IFB x43
 (R3 true w3)
 (LETB ((sbyte s (0 : Int)) == (45 : Int)) fun x43v1 =>
 IFB x43v1
 (R3 true w3)
 (LETB ((sbyte s (0 : Int)) == (48 : Int)) fun x43v2 =>
 IFB x43v2
 (R3 true w3)
 (LETB ((sbyte s (0 : Int)) == (61 : Int)) fun x43v3 =>
 IFB x43v3
 (R3 true w3)
 (LETB ((sbyte s (0 : Int)) == (9 : Int)) fun x43v4 =>
 R3 x43v4 w3))))) ∧
 (∀ (x43v5 : Bool) (w4 : World), R3 x43v5 w4 → (IFB x43v5
 (∃ R4 : Bool → World → Prop,
 (IFB (decide (n ≤ (128 : Int)))
 (CALL PG 22 [(.string (ByteArray.mk #[32, 32, 32, 32, 32, 32, 32, 32, 32, 32, 32, 32, 32, 32, 32, 32, 32, 32, 32, 32, 32, 32, 32, 32, 32, 32, 32, 32, 32, 32, 32, 32, 32, 32, 32, 32, 32, 32, 32, 32, 32, 32, 32, 32, 32, 32, 32, 32, 32, 32, 32, 32, 32, 32, 32, 32, 32, 32, 32, 32, 32, 32, 32, 32, 32, 32, 32, 32, 32, 32, 32, 32, 32, 32, 32, 32, 32, 32, 32, 32, 32, 32, 32, 32, 32, 32, 32, 32, 32, 32, 32, 32, 32, 32, 32, 32, 32, 32, 32, 32, 32, 32, 32, 32, 32, 32, 32, 32, 32, 32, 32, 32, 32, 32, 32, 32, 32, 32, 32, 32, 32, 32, 32, 32, 32, 32, 32, 32])), (.string s)] w4 fun v4 w5 =>
 ∃ x54 : Bool, v4 = (.bool x54) ∧
 (LETB x54 fun x49 =>
 R4 x49 w5))
 (LETB false fun x49v1 =>
 R4 x49v1 w4)) ∧
 (∀ (x49v2 : Bool) (w6 : World), R4 x49v2 w6 → (IFB x49v2
 (NEED (0 ≤ (0 : Int) ∧ (0 : Int) ≤ n ∧ n ≤ (ByteArray.mk #[32, 32, 32, 32, 32, 32, 32, 32, 32, 32, 32, 32, 32, 32, 32, 32, 32, 32, 32, 32, 32, 32, 32, 32, 32, 32, 32, 32, 32, 32, 32, 32, 32, 32, 32, 32, 32, 32, 32, 32, 32, 32, 32, 32, 32, 32, 32, 32, 32, 32, 32, 32, 32, 32, 32, 32, 32, 32, 32, 32, 32, 32, 32, 32, 32, 32, 32, 32, 32, 32, 32, 32, 32, 32, 32, 32, 32, 32, 32, 32, 32, 32, 32, 32, 32, 32, 32, 32, 32, 32, 32, 32, 32, 32, 32, 32, 32, 32, 32, 32, 32, 32, 32, 32, 32, 32, 32, 32, 32, 32, 32, 32, 32, 32, 32, 32, 32, 32, 32, 32, 32, 32, 32, 32, 32, 32, 32, 32]).size)
 (LETS (cutS (ByteArray.mk #[32, 32, 32, 32, 32, 32, 32, 32, 32, 32, 32, 32, 32, 32, 32, 32, 32, 32, 32, 32, 32, 32, 32, 32, 32, 32, 32, 32, 32, 32, 32, 32, 32, 32, 32, 32, 32, 32, 32, 32, 32, 32, 32, 32, 32, 32, 32, 32, 32, 32, 32, 32, 32, 32, 32, 32, 32, 32, 32, 32, 32, 32, 32, 32, 32, 32, 32, 32, 32, 32, 32, 32, 32, 32, 32, 32, 32, 32, 32, 32, 32, 32, 32, 32, 32, 32, 32, 32, 32, 32, 32, 32, 32, 32, 32, 32, 32, 32, 32, 32, 32, 32, 32, 32, 32, 32, 32, 32, 32, 32, 32, 32, 32, 32, 32, 32, 32, 32, 32, 32, 32, 32, 32, 32, 32, 32, 32, 32]) (0 : Int) n) fun x4v1 =>
 Q (.string x4v1) w6))
 (∃ R5 : Bool → World → Prop,
 (IFB (decide (n ≤ (128 : Int)))
 (CALL PG 22 [(.string (ByteArray.mk #[45, 45, 45, 45, 45, 45, 45, 45, 45, 45, 45, 45, 45, 45, 45, 45, 45, 45, 45, 45, 45, 45, 45, 45, 45, 45, 45, 45, 45, 45, 45, 45, 45, 45, 45, 45, 45, 45, 45, 45, 45, 45, 45, 45, 45, 45, 45, 45, 45, 45, 45, 45, 45, 45, 45, 45, 45, 45, 45, 45, 45, 45, 45, 45, 45, 45, 45, 45, 45, 45, 45, 45, 45, 45, 45, 45, 45, 45, 45, 45, 45, 45, 45, 45, 45, 45, 45, 45, 45, 45, 45, 45, 45, 45, 45, 45, 45, 45, 45, 45, 45, 45, 45, 45, 45, 45, 45, 45, 45, 45, 45, 45, 45, 45, 45, 45, 45, 45, 45, 45, 45, 45, 45, 45, 45, 45, 45, 45])), (.string s)] w6 fun v5 w7 =>
 ∃ x63 : Bool, v5 = (.bool x63) ∧
 (LETB x63 fun x58 =>
 R5 x58 w7))
 (LETB false fun x58v1 =>
 R5 x58v1 w6)) ∧
 (∀ (x58v2 : Bool) (w8 : World), R5 x58v2 w8 → (IFB x58v2
 (NEED (0 ≤ (0 : Int) ∧ (0 : Int) ≤ n ∧ n ≤ (ByteArray.mk #[45, 45, 45, 45, 45, 45, 45, 45, 45, 45, 45, 45, 45, 45, 45, 45, 45, 45, 45, 45, 45, 45, 45, 45, 45, 45, 45, 45, 45, 45, 45, 45, 45, 45, 45, 45, 45, 45, 45, 45, 45, 45, 45, 45, 45, 45, 45, 45, 45, 45, 45, 45, 45, 45, 45, 45, 45, 45, 45, 45, 45, 45, 45, 45, 45, 45, 45, 45, 45, 45, 45, 45, 45, 45, 45, 45, 45, 45, 45, 45, 45, 45, 45, 45, 45, 45, 45, 45, 45, 45, 45, 45, 45, 45, 45, 45, 45, 45, 45, 45, 45, 45, 45, 45, 45, 45, 45, 45, 45, 45, 45, 45, 45, 45, 45, 45, 45, 45, 45, 45, 45, 45, 45, 45, 45, 45, 45, 45]).size)
 (LETS (cutS (ByteArray.mk #[45, 45, 45, 45, 45, 45, 45, 45, 45, 45, 45, 45, 45, 45, 45, 45, 45, 45, 45, 45, 45, 45, 45, 45, 45, 45, 45, 45, 45, 45, 45, 45, 45, 45, 45, 45, 45, 45, 45, 45, 45, 45, 45, 45, 45, 45, 45, 45, 45, 45, 45, 45, 45, 45, 45, 45, 45, 45, 45, 45, 45, 45, 45, 45, 45, 45, 45, 45, 45, 45, 45, 45, 45, 45, 45, 45, 45, 45, 45, 45, 45, 45, 45, 45, 45, 45, 45, 45, 45, 45, 45, 45, 45, 45, 45, 45, 45, 45, 45, 45, 45, 45, 45, 45, 45, 45, 45, 45, 45, 45, 45, 45, 45, 45, 45, 45, 45, 45, 45, 45, 45, 45, 45, 45, 45, 45, 45, 45]) (0 : Int) n) fun x4v2 =>
 Q (.string x4v2) w8))
 (∃ R6 : Bool → World → Prop,
 (IFB (decide (n ≤ (64 : Int)))
 (CALL PG 22 [(.string (ByteArray.mk #[48, 48, 48, 48, 48, 48, 48, 48, 48, 48, 48, 48, 48, 48, 48, 48, 48, 48, 48, 48, 48, 48, 48, 48, 48, 48, 48, 48, 48, 48, 48, 48, 48, 48, 48, 48, 48, 48, 48, 48, 48, 48, 48, 48, 48, 48, 48, 48, 48, 48, 48, 48, 48, 48, 48, 48, 48, 48, 48, 48, 48, 48, 48, 48])), (.string s)] w8 fun v6 w9 =>
 ∃ x72 : Bool, v6 = (.bool x72) ∧
 (LETB x72 fun x67 =>
 R6 x67 w9))
 (LETB false fun x67v1 =>
 R6 x67v1 w8)) ∧
 (∀ (x67v2 : Bool) (w10 : World), R6 x67v2 w10 → (IFB x67v2
 (NEED (0 ≤ (0 : Int) ∧ (0 : Int) ≤ n ∧ n ≤ (ByteArray.mk #[48, 48, 48, 48, 48, 48, 48, 48, 48, 48, 48, 48, 48, 48, 48, 48, 48, 48, 48, 48, 48, 48, 48, 48, 48, 48, 48, 48, 48, 48, 48, 48, 48, 48, 48, 48, 48, 48, 48, 48, 48, 48, 48, 48, 48, 48, 48, 48, 48, 48, 48, 48, 48, 48, 48, 48, 48, 48, 48, 48, 48, 48, 48, 48]).size)
 (LETS (cutS (ByteArray.mk #[48, 48, 48, 48, 48, 48, 48, 48, 48, 48, 48, 48, 48, 48, 48, 48, 48, 48, 48, 48, 48, 48, 48, 48, 48, 48, 48, 48, 48, 48, 48, 48, 48, 48, 48, 48, 48, 48, 48, 48, 48, 48, 48, 48, 48, 48, 48, 48, 48, 48, 48, 48, 48, 48, 48, 48, 48, 48, 48, 48, 48, 48, 48, 48]) (0 : Int) n) fun x4v3 =>
 Q (.string x4v3) w10))
 (∃ R7 : Bool → World → Prop,
 (IFB (decide (n ≤ (128 : Int)))
 (CALL PG 22 [(.string (ByteArray.mk #[61, 61, 61, 61, 61, 61, 61, 61, 61, 61, 61, 61, 61, 61, 61, 61, 61, 61, 61, 61, 61, 61, 61, 61, 61, 61, 61, 61, 61, 61, 61, 61, 61, 61, 61, 61, 61, 61, 61, 61, 61, 61, 61, 61, 61, 61, 61, 61, 61, 61, 61, 61, 61, 61, 61, 61, 61, 61, 61, 61, 61, 61, 61, 61, 61, 61, 61, 61, 61, 61, 61, 61, 61, 61, 61, 61, 61, 61, 61, 61, 61, 61, 61, 61, 61, 61, 61, 61, 61, 61, 61, 61, 61, 61, 61, 61, 61, 61, 61, 61, 61, 61, 61, 61, 61, 61, 61, 61, 61, 61, 61, 61, 61, 61, 61, 61, 61, 61, 61, 61, 61, 61, 61, 61, 61, 61, 61, 61])), (.string s)] w10 fun v7 w11 =>
 ∃ x81 : Bool, v7 = (.bool x81) ∧
 (LETB x81 fun x76 =>
 R7 x76 w11))
 (LETB false fun x76v1 =>
 R7 x76v1 w10)) ∧
 (∀ (x76v2 : Bool) (w12 : World), R7 x76v2 w12 → (IFB x76v2
 (NEED (0 ≤ (0 : Int) ∧ (0 : Int) ≤ n ∧ n ≤ (ByteArray.mk #[61, 61, 61, 61, 61, 61, 61, 61, 61, 61, 61, 61, 61, 61, 61, 61, 61, 61, 61, 61, 61, 61, 61, 61, 61, 61, 61, 61, 61, 61, 61, 61, 61, 61, 61, 61, 61, 61, 61, 61, 61, 61, 61, 61, 61, 61, 61, 61, 61, 61, 61, 61, 61, 61, 61, 61, 61, 61, 61, 61, 61, 61, 61, 61, 61, 61, 61, 61, 61, 61, 61, 61, 61, 61, 61, 61, 61, 61, 61, 61, 61, 61, 61, 61, 61, 61, 61, 61, 61, 61, 61, 61, 61, 61, 61, 61, 61, 61, 61, 61, 61, 61, 61, 61, 61, 61, 61, 61, 61, 61, 61, 61, 61, 61, 61, 61, 61, 61, 61, 61, 61, 61, 61, 61, 61, 61, 61, 61]).size)
 (LETS (cutS (ByteArray.mk #[61, 61, 61, 61, 61, 61, 61, 61, 61, 61, 61, 61, 61, 61, 61, 61, 61, 61, 61, 61, 61, 61, 61, 61, 61, 61, 61, 61, 61, 61, 61, 61, 61, 61, 61, 61, 61, 61, 61, 61, 61, 61, 61, 61, 61, 61, 61, 61, 61, 61, 61, 61, 61, 61, 61, 61, 61, 61, 61, 61, 61, 61, 61, 61, 61, 61, 61, 61, 61, 61, 61, 61, 61, 61, 61, 61, 61, 61, 61, 61, 61, 61, 61, 61, 61, 61, 61, 61, 61, 61, 61, 61, 61, 61, 61, 61, 61, 61, 61, 61, 61, 61, 61, 61, 61, 61, 61, 61, 61, 61, 61, 61, 61, 61, 61, 61, 61, 61, 61, 61, 61, 61, 61, 61, 61, 61, 61, 61]) (0 : Int) n) fun x4v4 =>
 Q (.string x4v4) w12))
 (IFB (decide (n ≤ (64 : Int)))
 (CALL PG 22 [(.string (ByteArray.mk #[9, 9, 9, 9, 9, 9, 9, 9, 9, 9, 9, 9, 9, 9, 9, 9, 9, 9, 9, 9, 9, 9, 9, 9, 9, 9, 9, 9, 9, 9, 9, 9, 9, 9, 9, 9, 9, 9, 9, 9, 9, 9, 9, 9, 9, 9, 9, 9, 9, 9, 9, 9, 9, 9, 9, 9, 9, 9, 9, 9, 9, 9, 9, 9])), (.string s)] w12 fun v8 w13 =>
 ∃ x90 : Bool, v8 = (.bool x90) ∧
 (LETB x90 fun x85 =>
 IFB x85
 (NEED (0 ≤ (0 : Int) ∧ (0 : Int) ≤ n ∧ n ≤ (ByteArray.mk #[9, 9, 9, 9, 9, 9, 9, 9, 9, 9, 9, 9, 9, 9, 9, 9, 9, 9, 9, 9, 9, 9, 9, 9, 9, 9, 9, 9, 9, 9, 9, 9, 9, 9, 9, 9, 9, 9, 9, 9, 9, 9, 9, 9, 9, 9, 9, 9, 9, 9, 9, 9, 9, 9, 9, 9, 9, 9, 9, 9, 9, 9, 9, 9]).size)
 (LETS (cutS (ByteArray.mk #[9, 9, 9, 9, 9, 9, 9, 9, 9, 9, 9, 9, 9, 9, 9, 9, 9, 9, 9, 9, 9, 9, 9, 9, 9, 9, 9, 9, 9, 9, 9, 9, 9, 9, 9, 9, 9, 9, 9, 9, 9, 9, 9, 9, 9, 9, 9, 9, 9, 9, 9, 9, 9, 9, 9, 9, 9, 9, 9, 9, 9, 9, 9, 9]) (0 : Int) n) fun x4v5 =>
 Q (.string x4v5) w13))
 (R2 w13)))
 (LETB false fun x85v1 =>
 IFB x85v1
 (NEED (0 ≤ (0 : Int) ∧ (0 : Int) ≤ n ∧ n ≤ (ByteArray.mk #[9, 9, 9, 9, 9, 9, 9, 9, 9, 9, 9, 9, 9, 9, 9, 9, 9, 9, 9, 9, 9, 9, 9, 9, 9, 9, 9, 9, 9, 9, 9, 9, 9, 9, 9, 9, 9, 9, 9, 9, 9, 9, 9, 9, 9, 9, 9, 9, 9, 9, 9, 9, 9, 9, 9, 9, 9, 9, 9, 9, 9, 9, 9, 9]).size)
 (LETS (cutS (ByteArray.mk #[9, 9, 9, 9, 9, 9, 9, 9, 9, 9, 9, 9, 9, 9, 9, 9, 9, 9, 9, 9, 9, 9, 9, 9, 9, 9, 9, 9, 9, 9, 9, 9, 9, 9, 9, 9, 9, 9, 9, 9, 9, 9, 9, 9, 9, 9, 9, 9, 9, 9, 9, 9, 9, 9, 9, 9, 9, 9, 9, 9, 9, 9, 9, 9]) (0 : Int) n) fun x4v6 =>
 Q (.string x4v6) w12))
 (R2 w12)))))))))))))))
 (R2 w4))))) ∧
 (∀  (w14 : World), R2 w14 → (LETI n fun chunkMax =>
 ∃ R8 : Int → World → Prop,
 (IFB (decide (n > (8192 : Int)))
 (NEED (((s.size : Nat) : Int) ≠ 0)
 (LETI (IntKind.i64.wrap ((IntKind.i64.wrap (Int.tdiv (8192 : Int) ((s.size : Nat) : Int))) * ((s.size : Nat) : Int))) fun chunkMax1 =>
 IFB (chunkMax1 == (0 : Int))
 (LETI ((s.size : Nat) : Int) fun chunkMax2 =>
 R8 chunkMax2 w14)
 (R8 chunkMax1 w14)))
 (R8 chunkMax w14)) ∧
 (∀ (chunkMax3 : Int) (w15 : World), R8 chunkMax3 w15 → (RUNA PG (Instr.alloc 52 true (.tuple #[])) w15 fun a9 w16 =>
 CALL PG 23 [(.pointer (some a9)), (.int .i64 n)] w16 fun v9 w17 =>
 v9 = (.tuple #[]) ∧
 (CALL PG 24 [(.pointer (some a9)), (.string s)] w17 fun v10 w18 =>
 ∃ x110 : Int, ∃ x110v1 : Value, v10 = (.tuple #[(.int .i64 x110), x110v1]) ∧
 (∃ I : Nat → World → Prop,
 (∃ m, I m w18) ∧
 (∀ m1  (w19 : World), I m1 w19 → (CALL PG 25 [(.pointer (some a9))] w19 fun v11 w20 =>
 ∃ x111 : Int, v11 = (.int .i64 x111) ∧
 (IFB (decide (x111 < n))
 (CALL PG 25 [(.pointer (some a9))] w20 fun v12 w21 =>
 ∃ x115 : Int, v12 = (.int .i64 x115) ∧
 (CALL PG 25 [(.pointer (some a9))] w21 fun v13 w22 =>
 ∃ x117 : Int, v13 = (.int .i64 x117) ∧
 (RDI PG (Builtin.min_ #[3, 3, 3] 3 #[(.int .i64 (IntKind.i64.wrap (n - x115))), (.int .i64 x117), (.int .i64 chunkMax3)]) .i64 w22 fun x119 =>
 LETI x119 fun chunk =>
 CALL PG 26 [(.pointer (some a9))] w22 fun v14 w23 =>
 ∃ x120 : ByteArray, v14 = (.string x120) ∧
 (NEED (0 ≤ (0 : Int) ∧ (0 : Int) ≤ chunk ∧ chunk ≤ x120.size)
 (CALL PG 24 [(.pointer (some a9)), (.string (cutS x120 (0 : Int) chunk))] w23 fun v15 w24 =>
 ∃ x123 : Int, ∃ x123v1 : Value, v15 = (.tuple #[(.int .i64 x123), x123v1]) ∧
 (∃ m2, m2 < m1 ∧ I m2 w24))))))
 (CALL PG 26 [(.pointer (some a9))] w20 fun v16 w25 =>
 ∃ x124 : ByteArray, v16 = (.string x124) ∧
 (LETS x124 fun x4v7 =>
 Q (.string x4v7) w25)))))))))))))))))))
theorem eq14 : ∀ (s : ByteArray) (count : Int) (w : World) (Q : Value → World → Prop), vcF PG TB Tryd.f14 (.s .nil (.s .nil (.cut [] .nil (.s .nil (.cut [] .nil (.s .nil (.s .nil (.cut [] (.s .nil (.u (.cut [(43, 4)] .nil (.c (.u (.cut [(49, 4)] .nil (.c .nil (.cut [(58, 4)] .nil (.c .nil (.cut [(67, 4)] .nil (.c .nil (.cut [(76, 4)] .nil .nil)))))))) .nil)))) (.s .nil (.cut [(8, 3)] .nil (.s .nil (.s .nil (.s .nil (.s (.u (.loop [] .nil)) .nil)))))))))))))) [(.string s), (.int .i64 count)] w Q = N14 s count w Q := by intros; kernel_rfl
theorem call14 {s : ByteArray} {count : Int} {w : World} {Q : Value → World → Prop} (hN : N14 s count w Q) : CALL PG 14 [(.string s), (.int .i64 count)] w Q := calls_vc tabOk Tryd.func14 (by rw [eq14]; exact hN)

/-- math/bits.Mul -/
def N21 (x : Int) (y : Int) (w : World) (Q : Value → World → Prop) : Prop :=
 CALL PG 31 [(.int .u64 x), (.int .u64 y)] w fun v w1 =>
 ∃ x25 : Int, ∃ x25v1 : Int, v = (.tuple #[(.int .u64 x25), (.int .u64 x25v1)]) ∧
 (LETI x25 fun h =>
 LETI x25v1 fun l =>
 LETI h fun hi =>
 LETI l fun lo =>
 Q (.tuple #[(.int .u64 hi), (.int .u64 lo)]) w1)
theorem eq21 : ∀ (x : Int) (y : Int) (w : World) (Q : Value → World → Prop), vcF PG TB Tryd.f21 .nil [(.int .u64 x), (.int .u64 y)] w Q = N21 x y w Q := by intros; kernel_rfl
theorem call21 {x : Int} {y : Int} {w : World} {Q : Value → World → Prop} (hN : N21 x y w Q) : CALL PG 21 [(.int .u64 x), (.int .u64 y)] w Q := calls_vc tabOk Tryd.func21 (by rw [eq21]; exact hN)

/-- strings.HasPrefix -/
def N22 (s : ByteArray) (prefixv : ByteArray) (w : World) (Q : Value → World → Prop) : Prop :=
 CALL PG 32 [(.string s), (.string prefixv)] w fun v w1 =>
 ∃ x7 : Bool, v = (.bool x7) ∧
 (LETB x7 fun x4 =>
 Q (.bool x4) w1)
theorem eq22 : ∀ (s : ByteArray) (prefixv : ByteArray) (w : World) (Q : Value → World → Prop), vcF PG TB Tryd.f22 .nil [(.string s), (.string prefixv)] w Q = N22 s prefixv w Q := by intros; kernel_rfl
theorem call22 {s : ByteArray} {prefixv : ByteArray} {w : World} {Q : Value → World → Prop} (hN : N22 s prefixv w Q) : CALL PG 22 [(.string s), (.string prefixv)] w Q := calls_vc tabOk Tryd.func22 (by rw [eq22]; exact hN)

/-- strings.TrimRight -/
def N29 (s : ByteArray) (cutset : ByteArray) (w : World) (Q : Value → World → Prop) : Prop :=
 IFB (s.toList == (ByteArray.mk #[]).toList)
 (LETS s fun x4 =>
 Q (.string x4) w)
 (IFB (cutset.toList == (ByteArray.mk #[]).toList)
 (LETS s fun x4v1 =>
 Q (.string x4v1) w)
 (∃ R : World → Prop,
 (IFB (((cutset.size : Nat) : Int) == (1 : Int))
 (NEED (0 ≤ (0 : Int) ∧ (0 : Int) < cutset.size)
 (IFB (decide ((sbyte cutset (0 : Int)) < (128 : Int)))
 (NEED (0 ≤ (0 : Int) ∧ (0 : Int) < cutset.size)
 (CALL PG 37 [(.string s), (.int .u8 (sbyte cutset (0 : Int)))] w fun v w1 =>
 ∃ x25 : ByteArray, v = (.string x25) ∧
 (LETS x25 fun x4v2 =>
 Q (.string x4v2) w1)))
 (R w)))
 (R w)) ∧
 (∀  (w2 : World), R w2 → (CALL PG 38 [(.string cutset)] w2 fun v1 w3 =>
 ∃ x28 : Value, ∃ x28v1 : Bool, v1 = (.tuple #[x28, (.bool x28v1)]) ∧
 (RUNA PG (Instr.alloc 74 true (.tuple #[])) w3 fun a5 w4 =>
 RUNU PG (storeVar 74 a5 x28) w4 fun w5 =>
 LETB x28v1 fun okv =>
 IFB okv
 (CALL PG 39 [(.string s), (.pointer (some a5))] w5 fun v2 w6 =>
 ∃ x33 : ByteArray, v2 = (.string x33) ∧
 (LETS x33 fun x4v3 =>
 Q (.string x4v3) w6))
 (CALL PG 40 [(.string s), (.string cutset)] w5 fun v3 w7 =>
 ∃ x36 : ByteArray, v3 = (.string x36) ∧
 (LETS x36 fun x4v4 =>
 Q (.string x4v4) w7)))))))
theorem eq29 : ∀ (s : ByteArray) (cutset : ByteArray) (w : World) (Q : Value → World → Prop), vcF PG TB Tryd.f29 (.s .nil (.s .nil (.cut [] .nil .nil))) [(.string s), (.string cutset)] w Q = N29 s cutset w Q := by intros; kernel_rfl
theorem call29 {s : ByteArray} {cutset : ByteArray} {w : World} {Q : Value → World → Prop} (hN : N29 s cutset w Q) : CALL PG 29 [(.string s), (.string cutset)] w Q := calls_vc tabOk Tryd.func29 (by rw [eq29]; exact hN)

/-- math/bits.Mul64 -/
def N31 (x : Int) (y : Int) (w : World) (Q : Value → World → Prop) : Prop :=
 LETI (IntKind.u64.wrap (BitVec.ofInt (IntKind.u64.bits) x &&& BitVec.ofInt (IntKind.u64.bits) (4294967295 : Int)).toNat) fun x0 =>
 NEED (0 ≤ (32 : Int))
 (LETI (shrN .u64 x (32 : Int)) fun x1 =>
 LETI (IntKind.u64.wrap (BitVec.ofInt (IntKind.u64.bits) y &&& BitVec.ofInt (IntKind.u64.bits) (4294967295 : Int)).toNat) fun y0 =>
 NEED (0 ≤ (32 : Int))
 (LETI (shrN .u64 y (32 : Int)) fun y1 =>
 LETI (IntKind.u64.wrap (x0 * y0)) fun w0 =>
 NEED (0 ≤ (32 : Int))
 (LETI (IntKind.u64.wrap ((IntKind.u64.wrap (x1 * y0)) + (shrN .u64 w0 (32 : Int)))) fun t =>
 LETI (IntKind.u64.wrap (BitVec.ofInt (IntKind.u64.bits) t &&& BitVec.ofInt (IntKind.u64.bits) (4294967295 : Int)).toNat) fun w1 =>
 NEED (0 ≤ (32 : Int))
 (LETI (shrN .u64 t (32 : Int)) fun w2 =>
 LETI (IntKind.u64.wrap (w1 + (IntKind.u64.wrap (x0 * y1)))) fun w1v1 =>
 NEED (0 ≤ (32 : Int))
 (LETI (IntKind.u64.wrap ((IntKind.u64.wrap ((IntKind.u64.wrap (x1 * y1)) + w2)) + (shrN .u64 w1v1 (32 : Int)))) fun hi =>
 LETI (IntKind.u64.wrap (x * y)) fun lo =>
 Q (.tuple #[(.int .u64 hi), (.int .u64 lo)]) w)))))
theorem eq31 : ∀ (x : Int) (y : Int) (w : World) (Q : Value → World → Prop), vcF PG TB Tryd.f31 .nil [(.int .u64 x), (.int .u64 y)] w Q = N31 x y w Q := by intros; kernel_rfl
theorem call31 {x : Int} {y : Int} {w : World} {Q : Value → World → Prop} (hN : N31 x y w Q) : CALL PG 31 [(.int .u64 x), (.int .u64 y)] w Q := calls_vc tabOk Tryd.func31 (by rw [eq31]; exact hN)

/-- internal/stringslite.HasPrefix -/
def N32 (s : ByteArray) (prefixv : ByteArray) (w : World) (Q : Value → World → Prop) : Prop :=
 IFB (decide (((s.size : Nat) : Int) ≥ ((prefixv.size : Nat) : Int)))
 (NEED (0 ≤ (0 : Int) ∧ (0 : Int) ≤ ((prefixv.size : Nat) : Int) ∧ ((prefixv.size : Nat) : Int) ≤ s.size)
 (LETB ((cutS s (0 : Int) ((prefixv.size : Nat) : Int)).toList == prefixv.toList) fun x4 =>
 Q (.bool x4) w))
 (LETB false fun x4v1 =>
 Q (.bool x4v1) w)
theorem eq32 : ∀ (s : ByteArray) (prefixv : ByteArray) (w : World) (Q : Value → World → Prop), vcF PG TB Tryd.f32 .nil [(.string s), (.string prefixv)] w Q = N32 s prefixv w Q := by intros; kernel_rfl
theorem call32 {s : ByteArray} {prefixv : ByteArray} {w : World} {Q : Value → World → Prop} (hN : N32 s prefixv w Q) : CALL PG 32 [(.string s), (.string prefixv)] w Q := calls_vc tabOk Tryd.func32 (by rw [eq32]; exact hN)

/-- strings.trimRightByte -/
def N37 (s : ByteArray) (c : Int) (w : World) (Q : Value → World → Prop) : Prop :=
 ∃ I : Nat → ByteArray → World → Prop,
 (∃ m, I m s w) ∧
 (∀ m1 (s1 : ByteArray) (w1 : World), I m1 s1 w1 → (IFB (decide (((s1.size : Nat) : Int) > (0 : Int)))
 (NEED (0 ≤ (IntKind.i64.wrap (((s1.size : Nat) : Int) - (1 : Int))) ∧ (IntKind.i64.wrap (((s1.size : Nat) : Int) - (1 : Int))) < s1.size)
 (IFB ((sbyte s1 (IntKind.i64.wrap (((s1.size : Nat) : Int) - (1 : Int)))) == c)
 (NEED (0 ≤ (0 : Int) ∧ (0 : Int) ≤ (IntKind.i64.wrap (((s1.size : Nat) : Int) - (1 : Int))) ∧ (IntKind.i64.wrap (((s1.size : Nat) : Int) - (1 : Int))) ≤ s1.size)
 (LETS (cutS s1 (0 : Int) (IntKind.i64.wrap (((s1.size : Nat) : Int) - (1 : Int)))) fun s2 =>
 ∃ m2, m2 < m1 ∧ I m2 s2 w1))
 (LETS s1 fun x4 =>
 Q (.string x4) w1)))
 (LETS s1 fun x4v1 =>
 Q (.string x4v1) w1)))
theorem eq37 : ∀ (s : ByteArray) (c : Int) (w : World) (Q : Value → World → Prop), vcF PG TB Tryd.f37 (.s .nil (.s (.u (.loop [(0, 9)] .nil)) .nil)) [(.string s), (.int .u8 c)] w Q = N37 s c w Q := by intros; kernel_rfl
theorem call37 {s : ByteArray} {c : Int} {w : World} {Q : Value → World → Prop} (hN : N37 s c w Q) : CALL PG 37 [(.string s), (.int .u8 c)] w Q := calls_vc tabOk Tryd.func37 (by rw [eq37]; exact hN)

end Go.Br

/- Strings: a blank so many times, blanks at the end taken away. -/
set_option linter.unusedVariables false
set_option linter.unusedSimpArgs false
set_option linter.unnecessarySimpa false
namespace Go.Br
open Go
instance biStrLiba : Zro PG 52 2 32 (.agg #[.pointer none, .slice none 0 0]) := ⟨tiOf (by kernel_rfl)⟩
instance biStrLibb : Zro PG 74 256 256 (.agg #[.bool false, .bool false, .bool false, .bool false, .bool false, .bool false, .bool false, .bool false, .bool false, .bool false, .bool false, .bool false, .bool false, .bool false, .bool false, .bool false, .bool false, .bool false, .bool false, .bool false, .bool false, .bool false, .bool false, .bool false, .bool false, .bool false, .bool false, .bool false, .bool false, .bool false, .bool false, .bool false, .bool false, .bool false, .bool false, .bool false, .bool false, .bool false, .bool false, .bool false, .bool false, .bool false, .bool false, .bool false, .bool false, .bool false, .bool false, .bool false, .bool false, .bool false, .bool false, .bool false, .bool false, .bool false, .bool false, .bool false, .bool false, .bool false, .bool false, .bool false, .bool false, .bool false, .bool false, .bool false, .bool false, .bool false, .bool false, .bool false, .bool false, .bool false, .bool false, .bool false, .bool false, .bool false, .bool false, .bool false, .bool false, .bool false, .bool false, .bool false, .bool false, .bool false, .bool false, .bool false, .bool false, .bool false, .bool false, .bool false, .bool false, .bool false, .bool false, .bool false, .bool false, .bool false, .bool false, .bool false, .bool false, .bool false, .bool false, .bool false, .bool false, .bool false, .bool false, .bool false, .bool false, .bool false, .bool false, .bool false, .bool false, .bool false, .bool false, .bool false, .bool false, .bool false, .bool false, .bool false, .bool false, .bool false, .bool false, .bool false, .bool false, .bool false, .bool false, .bool false, .bool false, .bool false, .bool false, .bool false, .bool false, .bool false, .bool false, .bool false, .bool false, .bool false, .bool false, .bool false, .bool false, .bool false, .bool false, .bool false, .bool false, .bool false, .bool false, .bool false, .bool false, .bool false, .bool false, .bool false, .bool false, .bool false, .bool false, .bool false, .bool false, .bool false, .bool false, .bool false, .bool false, .bool false, .bool false, .bool false, .bool false, .bool false, .bool false, .bool false, .bool false, .bool false, .bool false, .bool false, .bool false, .bool false, .bool false, .bool false, .bool false, .bool false, .bool false, .bool false, .bool false, .bool false, .bool false, .bool false, .bool false, .bool false, .bool false, .bool false, .bool false, .bool false, .bool false, .bool false, .bool false, .bool false, .bool false, .bool false, .bool false, .bool false, .bool false, .bool false, .bool false, .bool false, .bool false, .bool false, .bool false, .bool false, .bool false, .bool false, .bool false, .bool false, .bool false, .bool false, .bool false, .bool false, .bool false, .bool false, .bool false, .bool false, .bool false, .bool false, .bool false, .bool false, .bool false, .bool false, .bool false, .bool false, .bool false, .bool false, .bool false, .bool false, .bool false, .bool false, .bool false, .bool false, .bool false, .bool false, .bool false, .bool false, .bool false, .bool false, .bool false, .bool false, .bool false, .bool false, .bool false, .bool false, .bool false, .bool false, .bool false, .bool false, .bool false, .bool false, .bool false, .bool false, .bool false, .bool false, .bool false, .bool false, .bool false, .bool false]) := ⟨tiOf (by kernel_rfl)⟩
attribute [local irreducible] Addr.add RD RDS RUN RUNU NILC LETB CALL CALLX CALLV

/-- Blanks at the end are taken away. -/
def trimR (l : List UInt8) : List UInt8 := (l.reverse.dropWhile (· == 32)).reverse
theorem trimR_nil : trimR [] = [] := rfl
theorem trimR_blank (l : List UInt8) : trimR (l ++ [32]) = trimR l := by unfold trimR; simp
theorem trimR_other (l : List UInt8) {b : UInt8} (h : b ≠ 32) : trimR (l ++ [b]) = l ++ [b] := by unfold trimR; simp [h]
theorem trimR_le (l : List UInt8) : (trimR l).length ≤ l.length := by
  unfold trimR
  rw [List.length_reverse]
  have := (List.dropWhile_sublist (fun x : UInt8 => x == 32) (l := l.reverse)).length_le
  rwa [List.length_reverse] at this
theorem sbyte_strOf {l : List UInt8} {i : Nat} {b : UInt8} (h : l[i]? = some b) : sbyte (strOf l) (i : Int) = (b.toNat : Int) := by
  unfold sbyte
  have : (strOf l)[(i : Int).toNat]? = some b := by
    rw [Int.toNat_natCast]
    obtain ⟨hi, e⟩ := List.getElem?_eq_some_iff.1 h
    rw [getElem?_pos (strOf l) i (by rw [strOf_size]; exact hi)]
    show some ((strOf l).data[i]'_) = some b
    rw [← e]
    simp [strOf]
  rw [this]
theorem strOf_app (l : List UInt8) (s : ByteArray) : strOf l ++ s = strOf (l ++ s.data.toList) := by rw [← strOf_append, strOf_data]
theorem size_data (s : ByteArray) : s.data.toList.length = s.size := by rw [Array.length_toList]; rfl
theorem mask32 {x : Nat} (h : x < 4294967296) : IntKind.u64.wrap (BitVec.ofInt (IntKind.u64.bits) (x : Int) &&& BitVec.ofInt (IntKind.u64.bits) (4294967295 : Int)).toNat = (x : Int) := by
  have e : (BitVec.ofInt (IntKind.u64.bits) (x : Int) &&& BitVec.ofInt (IntKind.u64.bits) (4294967295 : Int)).toNat = x := by
    rw [BitVec.toNat_and]
    have e1 : (BitVec.ofInt (IntKind.u64.bits) (x : Int)).toNat = x := by
      rw [BitVec.toNat_ofInt]
      have : (2 ^ IntKind.u64.bits : Nat) = 18446744073709551616 := by decide
      rw [this]
      omega
    have e2 : (BitVec.ofInt (IntKind.u64.bits) (4294967295 : Int)).toNat = 2 ^ 32 - 1 := by decide
    rw [e1, e2, Nat.and_two_pow_sub_one_eq_mod]
    omega
  rw [e, wrapU64]
  omega
theorem shr32 {x : Nat} (h : x < 4294967296) : shrN .u64 (x : Int) 32 = 0 := by
  unfold shrN
  rw [show (2 : Int) ^ (min (Int.toNat 32) IntKind.u64.bits) = 4294967296 by decide, Int.fdiv_eq_ediv_of_nonneg _ (by decide)]
  omega
section
variable {c : Ctx} {w : World} {L R : List SA}
theorem mul_ok {x y : Nat} (hx : x < 4294967296) (hy : y < 4294967296) (hxy : x * y < 4294967296) {Q : Value → World → Prop} (hk : Q (.tuple #[.int .u64 0, .int .u64 ((x * y : Nat) : Int)]) w) : CALL PG 21 [.int .u64 (x : Int), .int .u64 (y : Int)] w Q := by
  refine call21 ?_
  unfold N21
  refine call31 ?_
  unfold N31
  have ep : (x : Int) * (y : Int) = ((x * y : Nat) : Int) := by simp
  have w0 : ∀ {z : Nat}, z < 4294967296 → IntKind.u64.wrap (z : Int) = z := fun h => by rw [wrapU64]; omega
  refine leti (mask32 hx) ⟨by decide, leti (shr32 hx) (leti (mask32 hy) ⟨by decide, leti (shr32 hy) (leti (by rw [ep, w0 hxy]) ⟨by decide, ?_⟩)⟩)⟩
  rw [shr32 hxy]
  refine leti (y := ((0 : Nat) : Int)) (by rw [Int.zero_mul]; rfl) (leti (mask32 (by decide)) ⟨by decide, leti (shr32 (by decide)) (leti (y := ((0 : Nat) : Int)) (by rw [Int.mul_zero]; rfl) ⟨by decide, ?_⟩)⟩)
  rw [shr32 (by decide)]
  refine leti (y := 0) (by rw [Int.zero_mul]; rfl) (leti (by rw [ep, w0 hxy]) ?_)
  (repeat (first | apply Exists.intro (α := Int) | apply Exists.intro (α := Bool) | apply Exists.intro (α := ByteArray) | (apply Exists.intro (α := Option Addr); apply Exists.intro (α := Nat); apply Exists.intro (α := Nat)) | apply Exists.intro (α := Option Addr) | apply Exists.intro (α := Value)))
  refine ⟨rfl, ?_⟩
  exact leti rfl (leti rfl (leti rfl (leti rfl hk)))
theorem hasp_ok {s p : ByteArray} (h1 : p.size ≤ s.size) (h2 : cutS s 0 ((p.size : Nat) : Int) = p) {Q : Value → World → Prop} (hk : Q (.bool true) w) : CALL PG 22 [.string s, .string p] w Q := by
  refine call22 ?_
  unfold N22
  refine call32 ?_
  unfold N32
  refine ifdt (by omega) ⟨⟨by decide, by omega, by omega⟩, letb (y := true) (by rw [h2]; simp) ?_⟩
  (repeat (first | apply Exists.intro (α := Int) | apply Exists.intro (α := Bool) | apply Exists.intro (α := ByteArray) | (apply Exists.intro (α := Option Addr); apply Exists.intro (α := Nat); apply Exists.intro (α := Nat)) | apply Exists.intro (α := Option Addr) | apply Exists.intro (α := Value)))
  refine ⟨rfl, ?_⟩
  exact letb rfl hk
theorem spaces {T : ByteArray} (h : T = strOf (List.replicate 128 32)) {n : Nat} (hn : n ≤ 128) : cutS T 0 (n : Int) = strOf (List.replicate n 32) := by
  rw [h, cutS_strOf, List.take_replicate, Nat.min_eq_left hn]
set_option maxRecDepth 10000 in
theorem repeat_ok {n : Nat} (h0 : 2 ≤ n) (hn : n ≤ 128) {Q : Value → World → Prop} (hk : Q (.string (strOf (List.replicate n 32))) w) : CALL PG 14 [.string (ByteArray.mk #[32]), .int .i64 (n : Int)] w Q := by
  refine call14 ?_
  unfold N14
  refine letb (y := false) (by simp; omega) (iff_ rfl (letb (y := false) (by simp; omega) (iff_ rfl ?_)))
  refine ⟨fun w' => w' = w, ifdf (by omega) rfl, ?_⟩
  rintro w rfl
  rw [show IntKind.u64.wrap (n : Int) = ((n : Nat) : Int) by rw [wrapU64]; omega]
  refine mul_ok (x := 1) (by decide) (by omega) (by omega) ?_
  rw [Nat.one_mul]
  (repeat (first | apply Exists.intro (α := Int) | apply Exists.intro (α := Bool) | apply Exists.intro (α := ByteArray) | (apply Exists.intro (α := Option Addr); apply Exists.intro (α := Nat); apply Exists.intro (α := Nat)) | apply Exists.intro (α := Option Addr) | apply Exists.intro (α := Value)))
  refine ⟨rfl, ?_⟩
  refine leti rfl (leti rfl ?_)
  refine ⟨fun w' => w' = w, ifdf (by omega) (ifdf (by omega) rfl), ?_⟩
  rintro w rfl
  refine leti (y := (n : Int)) (by rw [wrap_i64 (by omega) (by omega)]) (iff_ rfl ?_)
  refine ⟨fun _ => False, ⟨⟨by decide, by decide⟩, ?_⟩, fun _ h => h.elim⟩
  refine ⟨fun b w' => b = true ∧ w' = w, letb rfl (ift rfl ⟨rfl, rfl⟩), ?_⟩
  rintro _ w ⟨rfl, rfl⟩
  refine ift rfl ?_
  refine ⟨fun b w' => b = true ∧ w' = w, ifdt (by omega) ?_, ?_⟩
  · refine hasp_ok (of_decide_eq_true (by kernel_rfl)) ?_ ?_
    · exact spaces (n := 1) (by kernel_rfl) (by decide)
    · (repeat (first | apply Exists.intro (α := Int) | apply Exists.intro (α := Bool) | apply Exists.intro (α := ByteArray) | (apply Exists.intro (α := Option Addr); apply Exists.intro (α := Nat); apply Exists.intro (α := Nat)) | apply Exists.intro (α := Option Addr) | apply Exists.intro (α := Value)))
      refine ⟨rfl, ?_⟩
      exact letb rfl ⟨rfl, rfl⟩
  rintro _ w ⟨rfl, rfl⟩
  refine ift rfl ⟨⟨by decide, by omega, ?_⟩, lets (spaces (by kernel_rfl) hn) hk⟩
  show (n : Int) ≤ ((128 : Nat) : Int)
  omega
theorem trimb_ok {l : List UInt8} (hl : l.length ≤ 1000000000) {Q : Value → World → Prop} (hk : Q (.string (strOf (trimR l))) w) : CALL PG 37 [.string (strOf l), .int .u8 32] w Q := by
  refine call37 ?_
  unfold N37
  refine ⟨fun m s w' => ∃ l' : List UInt8, s = strOf l' ∧ m = l'.length ∧ l'.length ≤ l.length ∧ trimR l' = trimR l ∧ w' = w, ⟨_, l, rfl, rfl, Nat.le_refl _, rfl, rfl⟩, ?_⟩
  rintro m _ w' ⟨l', rfl, rfl, hle, ht, rfl⟩
  rw [strOf_size]
  refine ifd (fun hpos => ?_) fun hz => ?_
  rotate_left
  · have : l' = [] := List.length_eq_zero_iff.1 (by omega)
    subst this
    exact lets (by rw [← ht]; rfl) hk
  rw [show IntKind.i64.wrap (((l'.length : Nat) : Int) - 1) = ((l'.length - 1 : Nat) : Int) by rw [wrap_i64 (by omega) (by omega)]; omega]
  refine ⟨⟨by omega, by omega⟩, ?_⟩
  rcases List.eq_nil_or_concat l' with rfl | ⟨q, b, rfl⟩
  · simp at hpos
  rw [List.concat_eq_append] at *
  have lq : (q ++ [b]).length - 1 = q.length := by simp
  rw [lq, sbyte_strOf (b := b) (by simp)]
  refine ifq (fun e => ?_) fun e => ?_
  · have eb : b = 32 := by
      apply UInt8.toNat_inj.1
      show b.toNat = 32
      omega
    subst eb
    rw [trimR_blank] at ht
    refine ⟨⟨by decide, by omega, by simp; omega⟩, lets (y := strOf q) (by rw [cutS_strOf]; simp) ⟨_, by simp, q, rfl, rfl, ?_, ht, rfl⟩⟩
    simp at hle
    omega
  · have eb : b ≠ 32 := fun h => e (by rw [h]; rfl)
    rw [trimR_other q eb] at ht
    exact lets (by rw [ht]) hk
theorem trim_ok {l : List UInt8} (hl : l.length ≤ 1000000000) {Q : Value → World → Prop} (hk : Q (.string (strOf (trimR l))) w) : CALL PG 29 [.string (strOf l), .string (ByteArray.mk #[32])] w Q := by
  refine call29 ?_
  unfold N29
  refine ifb (fun e => ?_) fun _ => iff_ (by kernel_rfl) ?_
  · have : l = [] := strOf_inj.1 e
    subst this
    exact lets rfl hk
  refine ⟨fun _ => False, ?_, fun _ h => h.elim⟩
  refine ift (by kernel_rfl) ⟨⟨by decide, by decide⟩, ?_⟩
  refine ift (by kernel_rfl) ⟨⟨by decide, by decide⟩, ?_⟩
  refine trimb_ok hl ?_
  (repeat (first | apply Exists.intro (α := Int) | apply Exists.intro (α := Bool) | apply Exists.intro (α := ByteArray) | (apply Exists.intro (α := Option Addr); apply Exists.intro (α := Nat); apply Exists.intro (α := Nat)) | apply Exists.intro (α := Option Addr) | apply Exists.intro (α := Value)))
  refine ⟨rfl, ?_⟩
  exact lets rfl hk
end
end Go.Br

/- What the code of some functions says, as the core reads it; each reading is checked by the kernel. -/
set_option linter.unusedVariables false
set_option maxRecDepth 100000
namespace Go.Br
open Go Go.Proofs

/-- brougham/report.Table -/
def N19 (rows : Option Addr) (rowsN rowsC : Nat) (w : World) (Q : Value → World → Prop) : Prop :=
 ∃ I : Nat → Option Addr → Nat → Nat → Int → World → Prop,
 (∃ m, I m none 0 0 (0 : Int) w) ∧
 (∀ m1 (wide : Option Addr) (wideN wideC : Nat) (x16 : Int) (w1 : World), I m1 wide wideN wideC x16 w1 → (IFB (decide (x16 < (rowsN : Int)))
 (IDX rows rowsN x16 fun a18 =>
 RDL PG (loadVar 42 (Addr.add a18 (Int.toNat x16 * 1))) w1 fun x19 x19N x19C =>
 ∃ I1 : Nat → Option Addr → Nat → Nat → Int → World → Prop,
 (∃ m2, I1 m2 wide wideN wideC (0 : Int) w1) ∧
 (∀ m3 (wide1 : Option Addr) (wideN1 wideC1 : Nat) (x22 : Int) (w2 : World), I1 m3 wide1 wideN1 wideC1 x22 w2 → (IFB (decide (x22 < (x19N : Int)))
 (IDX x19 x19N x22 fun a25 =>
 RDT PG (loadVar 9 (Addr.add a25 (Int.toNat x22 * 1))) w2 fun x26 =>
 LETI x22 fun i =>
 LETS x26 fun s =>
 IFB (i == (wideN1 : Int))
 (RUNL PG (Instr.buildSlice 22 1 #[(0, (.int .i64 (0 : Int)))]) w2 fun x32 x32N x32C w3 =>
 RUNL PG (Builtin.append_ #[22, 22] 22 #[(.slice wide1 wideN1 wideC1), (.slice x32 x32N x32C)]) w3 fun x33 x33N x33C w4 =>
 IDX x33 x33N i fun a38 =>
 RDI PG (loadVar 3 (Addr.add a38 (Int.toNat i * 1))) .i64 w4 fun x39 =>
 IDX x33 x33N i fun a43 =>
 RUNU PG (storeVar 3 (Addr.add a43 (Int.toNat i * 1)) (.int .i64 (maxN x39 ((s.size : Nat) : Int)))) w4 fun w5 =>
 ∃ m4, m4 < m3 ∧ I1 m4 x33 x33N x33C (IntKind.i64.wrap (x22 + (1 : Int))) w5)
 (IDX wide1 wideN1 i fun a38v1 =>
 RDI PG (loadVar 3 (Addr.add a38v1 (Int.toNat i * 1))) .i64 w2 fun x39v1 =>
 IDX wide1 wideN1 i fun a43v1 =>
 RUNU PG (storeVar 3 (Addr.add a43v1 (Int.toNat i * 1)) (.int .i64 (maxN x39v1 ((s.size : Nat) : Int)))) w2 fun w6 =>
 ∃ m5, m5 < m3 ∧ I1 m5 wide1 wideN1 wideC1 (IntKind.i64.wrap (x22 + (1 : Int))) w6))
 (∃ m6, m6 < m1 ∧ I m6 wide1 wideN1 wideC1 (IntKind.i64.wrap (x16 + (1 : Int))) w2))))
 (∃ I2 : Nat → ByteArray → Int → World → Prop,
 (∃ m7, I2 m7 (ByteArray.mk #[]) (0 : Int) w1) ∧
 (∀ m8 (out : ByteArray) (x48 : Int) (w7 : World), I2 m8 out x48 w7 → (IFB (decide (x48 < (rowsN : Int)))
 (IDX rows rowsN x48 fun a50 =>
 RDL PG (loadVar 42 (Addr.add a50 (Int.toNat x48 * 1))) w7 fun x51 x51N x51C =>
 ∃ I3 : Nat → ByteArray → Int → World → Prop,
 (∃ m9, I3 m9 (ByteArray.mk #[]) (0 : Int) w7) ∧
 (∀ m10 (line : ByteArray) (x54 : Int) (w8 : World), I3 m10 line x54 w8 → (IFB (decide (x54 < (x51N : Int)))
 (IDX x51 x51N x54 fun a57 =>
 RDT PG (loadVar 9 (Addr.add a57 (Int.toNat x54 * 1))) w8 fun x58 =>
 LETI x54 fun i1 =>
 LETS x58 fun s1 =>
 NEED (((line.size + s1.size : Nat) : Int) ≤ IntKind.i64.max)
 (LETS (line ++ s1) fun line1 =>
 IFB (decide (i1 < (IntKind.i64.wrap ((x51N : Int) - (1 : Int)))))
 (IDX wide wideN i1 fun a70 =>
 RDI PG (loadVar 3 (Addr.add a70 (Int.toNat i1 * 1))) .i64 w8 fun x71 =>
 CALL PG 14 [(.string (ByteArray.mk #[32])), (.int .i64 (IntKind.i64.wrap ((IntKind.i64.wrap (x71 - ((s1.size : Nat) : Int))) + (2 : Int))))] w8 fun v w9 =>
 ∃ x76 : ByteArray, v = (.string x76) ∧
 (NEED (((line1.size + x76.size : Nat) : Int) ≤ IntKind.i64.max)
 (LETS (line1 ++ x76) fun line2 =>
 ∃ m11, m11 < m10 ∧ I3 m11 line2 (IntKind.i64.wrap (x54 + (1 : Int))) w9)))
 (∃ m12, m12 < m10 ∧ I3 m12 line1 (IntKind.i64.wrap (x54 + (1 : Int))) w8)))
 (CALL PG 29 [(.string line), (.string (ByteArray.mk #[32]))] w8 fun v1 w10 =>
 ∃ x81 : ByteArray, v1 = (.string x81) ∧
 (NEED (((x81.size + (ByteArray.mk #[10]).size : Nat) : Int) ≤ IntKind.i64.max)
 (NEED (((out.size + (x81 ++ (ByteArray.mk #[10])).size : Nat) : Int) ≤ IntKind.i64.max)
 (LETS (out ++ (x81 ++ (ByteArray.mk #[10]))) fun out1 =>
 ∃ m13, m13 < m8 ∧ I2 m13 out1 (IntKind.i64.wrap (x48 + (1 : Int))) w10)))))))
 (LETS out fun x2 =>
 Q (.string x2) w7))))))
theorem eq19 : ∀ (rows : Option Addr) (rowsN rowsC : Nat) (w : World) (Q : Value → World → Prop), vcF PG TB Tryd.f19 (.s .nil (.s .nil (.s (.s .nil (.u (.loop [(3, 22), (16, 3)] (.s .nil (.s .nil (.s (.u (.s .nil (.s .nil (.u (.loop [(3, 22), (22, 3)] .nil))))) .nil)))))) (.s .nil (.s (.s .nil (.u (.loop [(8, 9), (48, 3)] (.s .nil (.s .nil (.s (.u (.s .nil (.s .nil (.s (.s .nil (.u (.loop [(11, 9), (54, 3)] .nil))) .nil)))) .nil)))))) .nil))))) [(.slice rows rowsN rowsC)] w Q = N19 rows rowsN rowsC w Q := by intros; kernel_rfl
theorem call19 {rows : Option Addr} {rowsN rowsC : Nat} {w : World} {Q : Value → World → Prop} (hN : N19 rows rowsN rowsC w Q) : CALL PG 19 [(.slice rows rowsN rowsC)] w Q := calls_vc tabOk Tryd.func19 (by rw [eq19]; exact hN)

end Go.Br

/- Rows of texts as lines: what a call does, of the program and of the document. -/
set_option linter.unusedVariables false
set_option linter.unusedSimpArgs false
set_option linter.unnecessarySimpa false
namespace Go.Br
open Go
attribute [local irreducible] Addr.add RD RDS RUN RUNU NILC LETB CALL CALLX CALLV

/-- A row of texts. -/
structure Rw where
  A : Option Addr
  ss : List ByteArray
  k : Nat
def rwv (x : Rw) : List Value := [.slice x.A x.ss.length x.k]
def tv (s : ByteArray) : List Value := [.string s]
def sAt (ss : List ByteArray) (i : Nat) : ByteArray := ss.getD i (ByteArray.mk #[])
theorem sAt_get {ss : List ByteArray} {i : Nat} (h : i < ss.length) : ss[i]? = some (sAt ss i) := by
  unfold sAt
  rw [List.getD_eq_getElem?_getD, List.getElem?_eq_getElem h]
  rfl
def szA (x : Rw) (i : Nat) : Nat := (sAt x.ss i).size
theorem szA_out {x : Rw} {i : Nat} (h : x.ss.length ≤ i) : szA x i = 0 := by
  unfold szA sAt
  rw [List.getD_eq_getElem?_getD, List.getElem?_eq_none h]
  rfl
/-- The longest text of a column. -/
def wd (X : List Rw) (i : Nat) : Nat := X.foldl (fun n x => max n (szA x i)) 0
theorem wd_snoc (X : List Rw) (x : Rw) (i : Nat) : wd (X ++ [x]) i = max (wd X i) (szA x i) := by unfold wd; rw [List.foldl_append]; rfl
theorem wd_take {X : List Rw} {j : Nat} {x : Rw} (h : X[j]? = some x) (i : Nat) : wd (X.take (j + 1)) i = max (wd (X.take j) i) (szA x i) := by rw [take_snoc' h, wd_snoc]
structure TabB (X : List Rw) : Prop where
  rows : X.length ≤ 1000
  cols : ∀ x ∈ X, x.ss.length ≤ 100
  size : ∀ x ∈ X, ∀ i, szA x i ≤ 100
theorem wd_aux (i : Nat) : ∀ (X : List Rw) (n : Nat), n ≤ 100 → (∀ x ∈ X, szA x i ≤ 100) → X.foldl (fun n x => max n (szA x i)) n ≤ 100 ∧ n ≤ X.foldl (fun n x => max n (szA x i)) n ∧ ∀ x ∈ X, szA x i ≤ X.foldl (fun n x => max n (szA x i)) n
  | [], n, hn, _ => ⟨hn, Nat.le_refl _, fun x hx => by cases hx⟩
  | y :: X, n, hn, h => by
    have hy := h y (by simp)
    obtain ⟨h1, h2, h3⟩ := wd_aux i X (max n (szA y i)) (by omega) fun x hx => h x (by simp [hx])
    rw [List.foldl_cons]
    refine ⟨h1, by omega, fun x hx => ?_⟩
    simp only [List.mem_cons] at hx
    rcases hx with rfl | hx
    · omega
    · exact h3 x hx
theorem wd_bd (X : List Rw) (i : Nat) (h : ∀ x ∈ X, szA x i ≤ 100) : wd X i ≤ 100 ∧ ∀ x ∈ X, szA x i ≤ wd X i := by
  obtain ⟨h1, _, h3⟩ := wd_aux i X 0 (by omega) h
  exact ⟨h1, h3⟩
/-- A text, and the blanks behind it. -/
def cellL (X : List Rw) (ss : List ByteArray) (i : Nat) : List UInt8 := (sAt ss i).data.toList ++ (if i + 1 < ss.length then List.replicate (wd X i + 2 - (sAt ss i).size) 32 else [])
def lineTo (X : List Rw) (ss : List ByteArray) (q : Nat) : List UInt8 := ((List.range q).map (cellL X ss)).flatten
theorem lineTo_succ (X : List Rw) (ss : List ByteArray) (q : Nat) : lineTo X ss (q + 1) = lineTo X ss q ++ cellL X ss q := by unfold lineTo; rw [List.range_succ]; simp
def tabTo (X : List Rw) (j : Nat) : List UInt8 := ((X.take j).map fun x => trimR (lineTo X x.ss x.ss.length) ++ [10]).flatten
theorem tabTo_succ {X : List Rw} {j : Nat} {x : Rw} (h : X[j]? = some x) : tabTo X (j + 1) = tabTo X j ++ (trimR (lineTo X x.ss x.ss.length) ++ [10]) := by unfold tabTo; rw [take_snoc' h]; simp
def tabL (X : List Rw) : List UInt8 := tabTo X X.length
theorem lineTo_le {X : List Rw} (hB : TabB X) {x : Rw} (hx : x ∈ X) : ∀ q, (lineTo X x.ss q).length ≤ q * 202
  | 0 => by simp [lineTo]
  | q + 1 => by
    have ih := lineTo_le hB hx q
    rw [lineTo_succ, List.length_append]
    have h1 : (sAt x.ss q).size ≤ 100 := hB.size x hx q
    have h2 := (wd_bd X q fun y hy => hB.size y hy q).1
    unfold cellL
    rw [List.length_append, size_data]
    split
    · rw [List.length_replicate]; omega
    · simp; omega
theorem tabTo_le {X : List Rw} (hB : TabB X) : ∀ j, j ≤ X.length → (tabTo X j).length ≤ j * 20300
  | 0, _ => by simp [tabTo]
  | j + 1, hj => by
    have ih := tabTo_le hB j (by omega)
    obtain ⟨x, hx⟩ := ex_get (L := X) (j := j) (by omega)
    have hm := List.mem_of_getElem? hx
    have h1 := lineTo_le hB hm x.ss.length
    have h2 := hB.cols x hm
    have h3 := trimR_le (lineTo X x.ss x.ss.length)
    rw [tabTo_succ hx]
    simp only [List.length_append, List.length_singleton]
    omega
theorem at0_app0 (W : List Int) (i : Nat) : at0 (W ++ [0]) i = at0 W i := by
  unfold at0
  rw [List.getD_eq_getElem?_getD, List.getD_eq_getElem?_getD]
  rcases Nat.lt_trichotomy i W.length with h | h | h
  · rw [List.getElem?_append_left h]
  · rw [List.getElem?_append_right (by omega), h]; simp
  · rw [List.getElem?_eq_none (by simp; omega), List.getElem?_eq_none (by omega)]
theorem i64max : IntKind.i64.max = 9223372036854775807 := by decide
section
variable {c : Ctx} {w : World} {L R : List SA} {A : Option Addr} {k : Nat}
theorem St.rowL {X : List Rw} {K : Option Addr → Nat → Nat → Prop} (h : St c w L) (hr : RdIn L A (X.flatMap rwv)) {j : Nat} {x : Rw} (hx : X[j]? = some x) (hk : K x.A x.ss.length x.k) :
    IDX A X.length (j : Int) fun a => RDL PG (loadVar 42 (Addr.add a (Int.toNat (j : Int) * 1))) w K :=
  h.ix (z := 0) hr hx (fun a ha => by subst ha; exact h.rdWL hr hx hk) (List.getElem?_eq_some_iff.1 hx).1
theorem St.rowT {ss : List ByteArray} {K : ByteArray → Prop} (h : St c w L) (hr : RdIn L A (ss.flatMap tv)) {i : Nat} (hi : i < ss.length) (hk : K (sAt ss i)) :
    IDX A ss.length (i : Int) fun a => RDT PG (loadVar 9 (Addr.add a (Int.toNat (i : Int) * 1))) w K :=
  h.ix (z := 0) hr (sAt_get hi) (fun a ha => by subst ha; exact h.rdWT hr (sAt_get hi) hk) hi
theorem table_ok (h : St c w L) {X : List Rw} (hr : RdIn L A (X.flatMap rwv)) (hs : ∀ x ∈ X, RdIn L x.A (x.ss.flatMap tv)) (hB : TabB X) {Q : Value → World → Prop}
    (hk : ∀ w', St c w' L → Q (.string (strOf (tabL X))) w') : CALL PG 19 [.slice A X.length k] w Q := by
  have hX := hB.rows
  refine call19 ?_
  unfold N19
  have h := h.addOwnNil 3 1
  refine ⟨fun m A' n' d' x w' => ∃ (j : Nat) (W : List Int), x = j ∧ m = X.length - j ∧ j ≤ X.length ∧ W.length = n' ∧ n' ≤ 100 ∧ (∀ i, at0 W i = (wd (X.take j) i : Int)) ∧ (∀ y ∈ X.take j, y.ss.length ≤ n') ∧ St c w' (own 3 1 A' n' d' (W.flatMap iv) :: L),
    ⟨_, 0, [], rfl, rfl, by omega, rfl, by omega, fun i => rfl, fun y hy => by simp at hy, h⟩, ?_⟩
  clear h
  rintro m O N0 d _ w' ⟨j, W, rfl, rfl, hj, hWl, hN, hW, hc, h⟩
  refine ifd (fun hlt => ?_) fun hge => ?_
  · obtain ⟨y, hy⟩ := ex_get (L := X) (j := j) (by omega)
    have hm := List.mem_of_getElem? hy
    have hyc := hB.cols y hm
    have nx : IntKind.i64.wrap ((j : Int) + 1) = ((j + 1 : Nat) : Int) := by rw [wrap_i64 (by omega) (by omega)]; omega
    refine h.rowL hr.more hy ?_
    refine ⟨fun m A' n' d' x w' => ∃ (q : Nat) (W : List Int), x = q ∧ m = y.ss.length - q ∧ q ≤ y.ss.length ∧ W.length = n' ∧ n' ≤ 100 ∧ q ≤ n' ∧ N0 ≤ n' ∧ (∀ i, at0 W i = if i < q then (wd (X.take (j + 1)) i : Int) else (wd (X.take j) i : Int)) ∧ St c w' (own 3 1 A' n' d' (W.flatMap iv) :: L),
      ⟨_, 0, W, rfl, rfl, by omega, hWl, hN, by omega, Nat.le_refl _, fun i => by rw [if_neg (by omega)]; exact hW i, h⟩, ?_⟩
    clear h hW hWl W
    rintro m O n' d _ w' ⟨q, W, rfl, rfl, hq, hWl, hn', hqn, hN0, hW, h⟩
    refine ifd (fun hlt2 => ?_) fun hge2 => ?_
    rotate_left
    · have eq : q = y.ss.length := by omega
      rw [nx]
      refine ⟨_, by omega, j + 1, W, rfl, rfl, by omega, hWl, hn', fun i => ?_, fun z hz => ?_, h⟩
      · rw [hW i]
        split
        · rfl
        · rw [wd_take hy, szA_out (by omega)]; simp
      · rw [take_snoc' hy, List.mem_append, List.mem_singleton] at hz
        rcases hz with hz | rfl
        · have := hc z hz; omega
        · omega
    have fin : ∀ (W : List Int) (n' : Nat) (O : Option Addr) (d : Nat) (w' : World), W.length = n' → n' ≤ 100 → q < n' → N0 ≤ n' → (∀ i, at0 W i = if i < q then (wd (X.take (j + 1)) i : Int) else (wd (X.take j) i : Int)) → St c w' (own 3 1 O n' d (W.flatMap iv) :: L) →
        IDX O n' (q : Int) fun a => RDI PG (loadVar 3 (Addr.add a (Int.toNat (q : Int) * 1))) .i64 w' fun x => IDX O n' (q : Int) fun a => RUNU PG (storeVar 3 (Addr.add a (Int.toNat (q : Int) * 1)) (.int .i64 (maxN x (((sAt y.ss q).size : Nat) : Int)))) w' fun w'' =>
        ∃ m', m' < y.ss.length - q ∧ ∃ (q' : Nat) (W : List Int), IntKind.i64.wrap ((q : Int) + 1) = q' ∧ m' = y.ss.length - q' ∧ q' ≤ y.ss.length ∧ W.length = n' ∧ n' ≤ 100 ∧ q' ≤ n' ∧ N0 ≤ n' ∧ (∀ i, at0 W i = if i < q' then (wd (X.take (j + 1)) i : Int) else (wd (X.take j) i : Int)) ∧ St c w'' (own 3 1 O n' d (W.flatMap iv) :: L) := by
      intro W n' O d w' hWl hn' hq' hN0 hW h
      refine h.arrR .head hWl hq' ?_
      refine h.arrW .head hWl hq' fun w' h => ?_
      refine ⟨_, by omega, q + 1, _, by rw [wrap_i64 (by omega) (by omega)]; omega, rfl, by omega, by rw [List.length_set]; exact hWl, hn', by omega, hN0, fun i => ?_, h⟩
      rw [at0_set (by omega)]
      by_cases ei : i = q
      · subst ei
        rw [if_pos rfl, if_pos (by omega), wd_take hy, hW, if_neg (by omega)]
        have esz : (sAt y.ss i).size = szA y i := rfl
        rw [esz]
        unfold maxN
        split <;> omega
      · rw [if_neg ei, hW i]
        by_cases e2 : i < q
        · rw [if_pos e2, if_pos (by omega)]
        · rw [if_neg e2, if_neg (by omega)]
    refine h.rowT (hs y hm).more (by omega) ?_
    refine leti rfl (lets rfl ?_)
    refine ifq (fun e => ?_) fun e => fin W n' O d w' hWl hn' (by omega) hN0 hW h
    refine h.app1 huInts tiInt [.int .i64 0] .head (iv_flat1 0) (by omega) fun O2 d2 w' h => ?_
    have ew : W.flatMap iv ++ [.int .i64 0] = (W ++ [0]).flatMap iv := by rw [List.flatMap_append]; rfl
    rw [ew] at h
    exact fin (W ++ [0]) (n' + 1) O2 d2 w' (by simp [hWl]) (by omega) (by omega) (by omega) (fun i => by rw [at0_app0]; exact hW i) h
  have ej : j = X.length := by omega
  rw [ej, List.take_length] at hW hc
  clear ej hge hj
  refine ⟨fun m o x w' => ∃ j : Nat, x = j ∧ m = X.length - j ∧ j ≤ X.length ∧ o = strOf (tabTo X j) ∧ St c w' (own 3 1 O N0 d (W.flatMap iv) :: L), ⟨_, 0, rfl, rfl, by omega, rfl, h⟩, ?_⟩
  clear h
  rintro m _ _ w' ⟨j, rfl, rfl, hj, rfl, h⟩
  have hto := tabTo_le hB j hj
  refine ifd (fun hlt => ?_) fun hge => ?_
  rotate_left
  · have ej : j = X.length := by omega
    rw [ej]
    exact lets rfl (hk _ h.drop)
  obtain ⟨y, hy⟩ := ex_get (L := X) (j := j) (by omega)
  have hm := List.mem_of_getElem? hy
  have hyc := hB.cols y hm
  refine h.rowL hr.more hy ?_
  refine ⟨fun m o x w' => ∃ q : Nat, x = q ∧ m = y.ss.length - q ∧ q ≤ y.ss.length ∧ o = strOf (lineTo X y.ss q) ∧ St c w' (own 3 1 O N0 d (W.flatMap iv) :: L), ⟨_, 0, rfl, rfl, by omega, rfl, h⟩, ?_⟩
  clear h
  rintro m _ _ w' ⟨q, rfl, rfl, hq, rfl, h⟩
  have hlo := lineTo_le hB hm q
  refine ifd (fun hlt2 => ?_) fun hge2 => ?_
  rotate_left
  · have eq : q = y.ss.length := by omega
    rw [eq] at hlo ⊢
    refine trim_ok (by omega) ?_
    (repeat (first | apply Exists.intro (α := Int) | apply Exists.intro (α := Bool) | apply Exists.intro (α := ByteArray) | (apply Exists.intro (α := Option Addr); apply Exists.intro (α := Nat); apply Exists.intro (α := Nat)) | apply Exists.intro (α := Option Addr) | apply Exists.intro (α := Value)))
    refine ⟨rfl, ?_⟩
    have h3 := trimR_le (lineTo X y.ss y.ss.length)
    have e10 : strOf (trimR (lineTo X y.ss y.ss.length)) ++ ByteArray.mk #[10] = strOf (trimR (lineTo X y.ss y.ss.length) ++ [10]) := strOf_app _ _
    have s10 : (ByteArray.mk #[10]).size = 1 := rfl
    rw [e10, i64max, strOf_size, strOf_size, strOf_size, s10, List.length_append, List.length_singleton]
    exact ⟨by omega, by omega, lets (by rw [strOf_append, ← tabTo_succ hy]) ⟨_, by omega, j + 1, by rw [wrap_i64 (by omega) (by omega)]; omega, rfl, by omega, rfl, h⟩⟩
  have nx : IntKind.i64.wrap ((q : Int) + 1) = ((q + 1 : Nat) : Int) := by rw [wrap_i64 (by omega) (by omega)]; omega
  have hsz : (sAt y.ss q).size ≤ 100 := hB.size y hm q
  have hwb := wd_bd X q fun y hy => hB.size y hy q
  have hwy : (sAt y.ss q).size ≤ wd X q := hwb.2 y hm
  refine h.rowT (hs y hm).more (by omega) (leti rfl (lets rfl ⟨?_, lets (strOf_app _ _) ?_⟩))
  · rw [i64max, strOf_size]; omega
  rw [show IntKind.i64.wrap ((y.ss.length : Int) - 1) = ((y.ss.length - 1 : Nat) : Int) by rw [wrap_i64 (by omega) (by omega)]; omega]
  refine ifd (fun hlt3 => ?_) fun hge3 => ?_
  · have hcy := hc y hm
    refine h.arrR .head hWl (by omega) ?_
    rw [hW q, show IntKind.i64.wrap (IntKind.i64.wrap ((wd X q : Int) - (((sAt y.ss q).size : Nat) : Int)) + 2) = ((wd X q + 2 - (sAt y.ss q).size : Nat) : Int) by
      rw [wrap_i64 (n := (wd X q : Int) - (((sAt y.ss q).size : Nat) : Int)) (by omega) (by omega), wrap_i64 (by omega) (by omega)]; omega]
    refine repeat_ok (by omega) (by omega) ?_
    (repeat (first | apply Exists.intro (α := Int) | apply Exists.intro (α := Bool) | apply Exists.intro (α := ByteArray) | (apply Exists.intro (α := Option Addr); apply Exists.intro (α := Nat); apply Exists.intro (α := Nat)) | apply Exists.intro (α := Option Addr) | apply Exists.intro (α := Value)))
    refine ⟨rfl, ?_⟩
    refine ⟨?_, lets (y := strOf (lineTo X y.ss (q + 1))) ?_ ⟨_, by omega, q + 1, nx, rfl, by omega, rfl, h⟩⟩
    · rw [i64max, strOf_size, strOf_size, List.length_append, size_data, List.length_replicate]; omega
    · rw [strOf_append, lineTo_succ]
      unfold cellL
      rw [if_pos (by omega), List.append_assoc]
  · refine ⟨_, by omega, q + 1, nx, rfl, by omega, ?_, h⟩
    rw [lineTo_succ]
    unfold cellL
    rw [if_neg (by omega), List.append_nil]
end
end Go.Br

/- What the code of some functions says, as the core reads it; each reading is checked by the kernel. -/
set_option linter.unusedVariables false
set_option maxRecDepth 100000
namespace Go.Br
open Go Go.Proofs

/-- brougham/broughamlaw37.alive -/
def N9  (w : World) (Q : Value → World → Prop) : Prop :=
 RUNL PG (Instr.buildSlice 22 2 #[(0, (.int .i64 (1 : Int))), (1, (.int .i64 (5 : Int)))]) w fun x1 x1N x1C w1 =>
 CALL PG 16 [(.slice x1 x1N x1C)] w1 fun v w2 =>
 ∃ x2 : Int, ∃ x2v1 : Int, ∃ x2v2 : Int, ∃ x2v3 : Int, v = (.agg #[(.int .i64 x2), (.int .i64 x2v1), (.int .i64 x2v2), (.int .i64 x2v3)]) ∧
 (CALL PG 17 [(.agg #[(.int .i64 x2), (.int .i64 x2v1), (.int .i64 x2v2), (.int .i64 x2v3)])] w2 fun v1 w3 =>
 ∃ x3 : Int, v1 = (.int .i64 x3) ∧
 (IFB (x3 == (3 : Int))
 (RUNL PG (Instr.buildSlice 22 2 #[(0, (.int .i64 (1 : Int))), (1, (.int .i64 (5 : Int)))]) w3 fun x6 x6N x6C w4 =>
 CALL PG 18 [(.int .i64 (50 : Int)), (.slice x6 x6N x6C)] w4 fun v2 w5 =>
 ∃ x7 : Int, v2 = (.int .i64 x7) ∧
 (IFB (x7 == (1 : Int))
 (RUNL PG (Instr.buildSlice 42 2 #[(0, (.string (ByteArray.mk #[97]))), (1, (.string (ByteArray.mk #[98])))]) w5 fun x11 x11N x11C w6 =>
 RUNL PG (Instr.buildSlice 61 1 #[(0, (.slice x11 x11N x11C))]) w6 fun x12 x12N x12C w7 =>
 CALL PG 19 [(.slice x12 x12N x12C)] w7 fun v3 w8 =>
 ∃ x13 : ByteArray, v3 = (.string x13) ∧
 (LETB (x13.toList == (ByteArray.mk #[97, 32, 32, 98, 10]).toList) fun x0 =>
 Q (.bool x0) w8))
 (LETB false fun x0v1 =>
 Q (.bool x0v1) w5)))
 (LETB false fun x0v2 =>
 Q (.bool x0v2) w3)))
theorem eq9 : ∀  (w : World) (Q : Value → World → Prop), vcF PG TB Tryd.f9 .nil [] w Q = N9  w Q := by intros; kernel_rfl
theorem call9  {w : World} {Q : Value → World → Prop} (hN : N9  w Q) : CALL PG 9 [] w Q := calls_vc tabOk Tryd.func9 (by rw [eq9]; exact hN)

end Go.Br

/- The fixed facts of layer 37. -/
set_option linter.unusedVariables false
set_option linter.unusedSimpArgs false
set_option linter.unnecessarySimpa false
namespace Go.Br
open Go
attribute [local irreducible] Addr.add RD RDS RUN RUNU NILC LETB CALL CALLX CALLV

theorem tabAB (A : Option Addr) (k : Nat) : tabL [⟨A, [ByteArray.mk #[97], ByteArray.mk #[98]], k⟩] = [97, 32, 32, 98, 10] := by kernel_rfl
theorem srt15 : Srt fI [1, 5] := by
  refine List.pairwise_cons.2 ⟨fun x hx => ?_, List.pairwise_singleton _ _⟩
  simp at hx
  subst hx
  unfold Le fI
  decide
section
variable {c : Ctx} {w : World} {L R : List SA} {A : Option Addr} {k : Nat}
theorem alive37_ok (h : St c w L) {Q : Value → World → Prop} (hk : ∀ w', St c w' L → Q (.bool true) w') : CALL PG 9 [] w Q := by
  refine call9 ?_
  unfold N9
  refine h.lit (n := 2) 3 1 (([1, 5] : List Int).flatMap iv) fun p w' h => ?_
  refine of_ok (l := [1, 5]) h (RdIn.own .head) (by decide) fun w' lo hi _ _ h => ?_
  (repeat (first | apply Exists.intro (α := Int) | apply Exists.intro (α := Bool) | apply Exists.intro (α := ByteArray) | (apply Exists.intro (α := Option Addr); apply Exists.intro (α := Nat); apply Exists.intro (α := Nat)) | apply Exists.intro (α := Option Addr) | apply Exists.intro (α := Value)))
  refine ⟨rfl, ?_⟩
  refine mean_ok (s := ⟨_, _, _, _⟩) h ?_ ?_ fun w' h => ?_
  · exact ⟨by show (0 : Int) ≤ 2; decide, by show (2 : Int) ≤ 1000000; decide⟩
  · exact ⟨by show -4611686018427387904 ≤ sumI (([1, 5] : List Int).map clampI); decide, by show sumI (([1, 5] : List Int).map clampI) ≤ 4611686018427387904; decide⟩
  (repeat (first | apply Exists.intro (α := Int) | apply Exists.intro (α := Bool) | apply Exists.intro (α := ByteArray) | (apply Exists.intro (α := Option Addr); apply Exists.intro (α := Nat); apply Exists.intro (α := Nat)) | apply Exists.intro (α := Option Addr) | apply Exists.intro (α := Value)))
  refine ⟨rfl, ?_⟩
  refine ift (by show ((if (2 : Int) = 0 then 0 else sumI (([1, 5] : List Int).map clampI) / 2) == 3) = true; decide) ?_
  refine h.lit (n := 2) 3 1 (([1, 5] : List Int).flatMap iv) fun p w' h => ?_
  refine pct_ok (l := [1, 5]) h (RdIn.own .head) (by decide) fun w' x hx h => ?_
  (repeat (first | apply Exists.intro (α := Int) | apply Exists.intro (α := Bool) | apply Exists.intro (α := ByteArray) | (apply Exists.intro (α := Option Addr); apply Exists.intro (α := Nat); apply Exists.intro (α := Nat)) | apply Exists.intro (α := Option Addr) | apply Exists.intro (α := Value)))
  refine ⟨rfl, ?_⟩
  have ex : x = 1 := by
    have := hx.2 (by decide) [1, 5] srt15 (.refl _)
    have e2 : (some 1 : Option Int) = some x := this
    injection e2 with e2
    exact e2.symm
  refine ift (by rw [ex]; rfl) ?_
  refine h.lit (n := 2) 9 1 (([ByteArray.mk #[97], ByteArray.mk #[98]] : List ByteArray).flatMap tv) fun p w' h => ?_
  refine h.lit (n := 1) 42 1 (([⟨some ⟨p, 0, none⟩, [ByteArray.mk #[97], ByteArray.mk #[98]], 2⟩] : List Rw).flatMap rwv) fun p2 w' h => ?_
  refine table_ok (X := [⟨some ⟨p, 0, none⟩, [ByteArray.mk #[97], ByteArray.mk #[98]], 2⟩]) h (RdIn.own .head) (fun x hx => ?_) ⟨by show 1 ≤ 1000; decide, fun x hx => ?_, fun x hx i => ?_⟩ fun w' h => ?_
  · rw [List.mem_singleton] at hx
    subst hx
    exact RdIn.own (.tail .head)
  · rw [List.mem_singleton] at hx
    subst hx
    show 2 ≤ 100
    decide
  · rw [List.mem_singleton] at hx
    subst hx
    match i with
    | 0 => exact show 1 ≤ 100 by decide
    | 1 => exact show 1 ≤ 100 by decide
    | n + 2 => exact Nat.le_trans (Nat.le_of_eq (szA_out (by simp))) (by decide)
  (repeat (first | apply Exists.intro (α := Int) | apply Exists.intro (α := Bool) | apply Exists.intro (α := ByteArray) | (apply Exists.intro (α := Option Addr); apply Exists.intro (α := Nat); apply Exists.intro (α := Nat)) | apply Exists.intro (α := Option Addr) | apply Exists.intro (α := Value)))
  refine ⟨rfl, ?_⟩
  rw [tabAB]
  exact letb (by kernel_rfl) (hk _ h.drop.drop.drop.drop)
end
end Go.Br
