/- Numbers that are reckoned: the least, the greatest, the sum; a sorted row is the one and only. -/
import Derived.Test.YtccmlfekmmeloaaSortInt
set_option linter.unusedVariables false
set_option linter.unusedSimpArgs false
set_option linter.unnecessarySimpa false
namespace Go.Br
open Go
attribute [local irreducible] Addr.add RD RDS RUN RUNU NILC LETB CALL CALLX CALLV

def clampI (x : Int) : Int := if x < -1073741824 then -1073741824 else if 1073741824 < x then 1073741824 else x
theorem clampI_bd (x : Int) : -1073741824 ≤ clampI x ∧ clampI x ≤ 1073741824 := by unfold clampI; split <;> (try split) <;> omega
theorem clampI_mono {x y : Int} (h : x ≤ y) : clampI x ≤ clampI y := by unfold clampI; (repeat' split) <;> omega
/-- The least, the greatest of some numbers. -/
def lstS (j : Nat) (m x : Int) : Int := if j = 0 ∨ x < m then x else m
def mstS (j : Nat) (m x : Int) : Int := if j = 0 ∨ m < x then x else m
/-- It is the least one. -/
def IsLst (l : List Int) (m : Int) : Prop := (l = [] → m = 0) ∧ (l ≠ [] → m ∈ l ∧ ∀ x ∈ l, m ≤ x)
def IsMst (l : List Int) (m : Int) : Prop := (l = [] → m = 0) ∧ (l ≠ [] → m ∈ l ∧ ∀ x ∈ l, x ≤ m)
theorem IsLst.snoc {l : List Int} {m x : Int} (h : IsLst l m) : IsLst (l ++ [x]) (lstS l.length m x) := by
  refine ⟨fun e => by simp at e, fun _ => ?_⟩
  unfold lstS
  by_cases e : l = []
  · subst e; simp
  have h := h.2 e
  have : l.length ≠ 0 := fun h => e (List.length_eq_zero_iff.1 h)
  by_cases hx : x < m
  · rw [if_pos (.inr hx)]
    refine ⟨by simp, fun y hy => ?_⟩
    simp only [List.mem_append, List.mem_singleton] at hy
    rcases hy with hy | rfl
    · have := h.2 y hy; omega
    · omega
  · rw [if_neg (by omega)]
    refine ⟨by simp [h.1], fun y hy => ?_⟩
    simp only [List.mem_append, List.mem_singleton] at hy
    rcases hy with hy | rfl
    · exact h.2 y hy
    · omega
theorem IsMst.snoc {l : List Int} {m x : Int} (h : IsMst l m) : IsMst (l ++ [x]) (mstS l.length m x) := by
  refine ⟨fun e => by simp at e, fun _ => ?_⟩
  unfold mstS
  by_cases e : l = []
  · subst e; simp
  have h := h.2 e
  have : l.length ≠ 0 := fun h => e (List.length_eq_zero_iff.1 h)
  by_cases hx : m < x
  · rw [if_pos (.inr hx)]
    refine ⟨by simp, fun y hy => ?_⟩
    simp only [List.mem_append, List.mem_singleton] at hy
    rcases hy with hy | rfl
    · have := h.2 y hy; omega
    · omega
  · rw [if_neg (by omega)]
    refine ⟨by simp [h.1], fun y hy => ?_⟩
    simp only [List.mem_append, List.mem_singleton] at hy
    rcases hy with hy | rfl
    · exact h.2 y hy
    · omega
theorem IsLst.uniq {l : List Int} {m m' : Int} (h : IsLst l m) (h' : IsLst l m') : m = m' := by
  by_cases e : l = []
  · rw [h.1 e, h'.1 e]
  · have h1 := (h.2 e).2 m' (h'.2 e).1
    have h2 := (h'.2 e).2 m (h.2 e).1
    omega
theorem IsMst.uniq {l : List Int} {m m' : Int} (h : IsMst l m) (h' : IsMst l m') : m = m' := by
  by_cases e : l = []
  · rw [h.1 e, h'.1 e]
  · have h1 := (h.2 e).2 m' (h'.2 e).1
    have h2 := (h'.2 e).2 m (h.2 e).1
    omega
/-- The sum. -/
def sumI (l : List Int) : Int := l.foldr (fun x s => x + s) 0
theorem sumI_cons (x : Int) (l : List Int) : sumI (x :: l) = x + sumI l := rfl
theorem sumI_append : ∀ l m : List Int, sumI (l ++ m) = sumI l + sumI m
  | [], m => by simp [sumI]
  | x :: l, m => by rw [List.cons_append, sumI_cons, sumI_cons, sumI_append l m]; omega
theorem sumI_perm {l m : List Int} (h : l.Perm m) : sumI l = sumI m := by
  induction h with
  | nil => rfl
  | cons x _ ih => rw [sumI_cons, sumI_cons, ih]
  | swap x y l => simp only [sumI_cons]; omega
  | trans _ _ h1 h2 => rw [h1, h2]
theorem sumI_bd : ∀ l : List Int, -1073741824 * (l.length : Int) ≤ sumI (l.map clampI) ∧ sumI (l.map clampI) ≤ 1073741824 * (l.length : Int)
  | [] => by simp [sumI]
  | x :: l => by
    have h := sumI_bd l
    have hx := clampI_bd x
    rw [List.map_cons, sumI_cons, List.length_cons]
    omega
theorem sumI_ge {m : Int} : ∀ {l : List Int}, (∀ x ∈ l, m ≤ x) → m * (l.length : Int) ≤ sumI l
  | [], _ => by simp [sumI]
  | x :: l, h => by
    have h1 := h x (by simp)
    have h2 := sumI_ge (l := l) fun y hy => h y (by simp [hy])
    rw [sumI_cons, List.length_cons, Int.natCast_add, Int.mul_add]
    omega
theorem sumI_le {m : Int} : ∀ {l : List Int}, (∀ x ∈ l, x ≤ m) → sumI l ≤ m * (l.length : Int)
  | [], _ => by simp [sumI]
  | x :: l, h => by
    have h1 := h x (by simp)
    have h2 := sumI_le (l := l) fun y hy => h y (by simp [hy])
    rw [sumI_cons, List.length_cons, Int.natCast_add, Int.mul_add]
    omega
/-- There is but one sorted row of some numbers. -/
theorem srt_uniq : ∀ {A B : List Int}, Srt fI A → Srt fI B → A.Perm B → A = B
  | [], B, _, _, h => (List.Perm.nil_eq h)
  | a :: A, [], _, _, h => absurd (h.length_eq) (by simp)
  | a :: A, b :: B, hA, hB, h => by
    have a1 := List.pairwise_cons.1 hA
    have b1 := List.pairwise_cons.1 hB
    have e : a = b := by
      have h1 := h.mem_iff.1 (show a ∈ a :: A by simp)
      have h2 := h.mem_iff.2 (show b ∈ b :: B by simp)
      simp only [List.mem_cons] at h1 h2
      rcases h1 with h1 | h1
      · exact h1
      rcases h2 with h2 | h2
      · exact h2.symm
      have q1 := a1.1 b h2
      have q2 := b1.1 a h1
      unfold Le fI at q1 q2
      omega
    subst e
    rw [srt_uniq a1.2 b1.2 h.cons_inv]
/-- The first of a sorted row is the least one. -/
theorem srt_first {A l : List Int} {x : Int} (hA : Srt fI A) (hp : A.Perm l) (hx : A[0]? = some x) : IsLst (l.map clampI) (clampI x) := by
  cases A with
  | nil => simp at hx
  | cons a A =>
    simp at hx
    subst hx
    refine ⟨fun e => ?_, fun _ => ⟨List.mem_map.2 ⟨a, hp.mem_iff.1 (by simp), rfl⟩, fun y hy => ?_⟩⟩
    · rw [List.map_eq_nil_iff] at e
      subst e
      have := hp.length_eq
      simp at this
    · obtain ⟨z, hz, rfl⟩ := List.mem_map.1 hy
      have hz := hp.mem_iff.2 hz
      simp only [List.mem_cons] at hz
      rcases hz with rfl | hz
      · exact Int.le_refl _
      · have := (List.pairwise_cons.1 hA).1 z hz
        unfold Le fI at this
        exact clampI_mono (by omega)
theorem srt_last {A l : List Int} {x : Int} (hA : Srt fI A) (hp : A.Perm l) (hx : A[A.length - 1]? = some x) : IsMst (l.map clampI) (clampI x) := by
  rcases List.eq_nil_or_concat A with rfl | ⟨B, a, rfl⟩
  · simp at hx
  rw [List.concat_eq_append] at *
  simp at hx
  subst hx
  refine ⟨fun e => ?_, fun _ => ⟨List.mem_map.2 ⟨a, hp.mem_iff.1 (by simp), rfl⟩, fun y hy => ?_⟩⟩
  · rw [List.map_eq_nil_iff] at e
    subst e
    have := hp.length_eq
    simp at this
  · obtain ⟨z, hz, rfl⟩ := List.mem_map.1 hy
    have hz := hp.mem_iff.2 hz
    simp only [List.mem_append, List.mem_singleton] at hz
    rcases hz with hz | rfl
    · have := (List.pairwise_append.1 hA).2.2 z hz a (by simp)
      unfold Le fI at this
      exact clampI_mono (by omega)
    · exact Int.le_refl _
/-- Places of a sorted row rise. -/
theorem srt_le {A : List Int} (hA : Srt fI A) {i j : Nat} {x y : Int} (hij : i ≤ j) (hx : A[i]? = some x) (hy : A[j]? = some y) : x ≤ y := by
  rcases Nat.lt_or_eq_of_le hij with h | h
  · obtain ⟨hi, ei⟩ := List.getElem?_eq_some_iff.1 hx
    obtain ⟨hj, ej⟩ := List.getElem?_eq_some_iff.1 hy
    have := List.pairwise_iff_getElem.1 hA i j hi hj h
    rw [ei, ej] at this
    unfold Le fI at this
    omega
  · subst h
    rw [hx] at hy
    injection hy with hy
    omega
theorem srt_ins (x : Int) : ∀ {A : List Int}, Srt fI A → ∃ B, Srt fI B ∧ B.Perm (x :: A)
  | [], _ => ⟨[x], List.pairwise_singleton _ _, .refl _⟩
  | a :: A, h => by
    have h1 := List.pairwise_cons.1 h
    by_cases hx : x ≤ a
    · refine ⟨x :: a :: A, List.pairwise_cons.2 ⟨fun y hy => ?_, h⟩, .refl _⟩
      simp only [List.mem_cons] at hy
      unfold Le fI
      rcases hy with rfl | hy
      · omega
      · have := h1.1 y hy
        unfold Le fI at this
        omega
    · obtain ⟨B, hB, hp⟩ := srt_ins x h1.2
      refine ⟨a :: B, List.pairwise_cons.2 ⟨fun y hy => ?_, hB⟩, (hp.cons a).trans (List.Perm.swap x a A)⟩
      have hy := hp.mem_iff.1 hy
      simp only [List.mem_cons] at hy
      rcases hy with rfl | hy
      · unfold Le fI; omega
      · exact h1.1 y hy
theorem ex_sorted : ∀ l : List Int, ∃ C, Srt fI C ∧ C.Perm l
  | [] => ⟨[], List.Pairwise.nil, .refl _⟩
  | x :: l => by
    obtain ⟨A, hA, hp⟩ := ex_sorted l
    obtain ⟨B, hB, hq⟩ := srt_ins x hA
    exact ⟨B, hB, hq.trans (hp.cons x)⟩
/-- The place of so many of a hundred. -/
def pctI (n : Nat) (part : Int) : Nat := (((n : Int) * (if part < 0 then 0 else if 100 < part then 100 else part) + 99) / 100 - 1).toNat
theorem pctI_lt {n : Nat} (hn : 0 < n) (part : Int) : pctI n part < n := by
  unfold pctI
  split
  · omega
  · split <;> (generalize hp : (if 100 < part then (100 : Int) else part) = q; try omega)
    rename_i h1 h2
    have : (n : Int) * part ≤ (n : Int) * 100 := Int.mul_le_mul_of_nonneg_left (by omega) (by omega)
    omega
end Go.Br
