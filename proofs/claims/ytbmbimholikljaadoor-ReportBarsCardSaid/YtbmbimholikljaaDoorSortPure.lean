/- Plain lists that are sorted: what rotating, merging, inserting do. -/
import Derived.Test.YtbmbimholikljaaDoorBrSep
set_option linter.unusedVariables false
set_option linter.unusedSimpArgs false
set_option linter.unnecessarySimpa false
namespace Go.Br
open Go

/-- An order by a comparison: what isn't behind. -/
structure Ord (α : Type) (f : α → α → Int) : Prop where
  refl : ∀ x, 0 ≤ f x x
  trans : ∀ x y z, 0 ≤ f y x → 0 ≤ f z y → 0 ≤ f z x
  total : ∀ x y, f x y < 0 → 0 ≤ f y x
/-- x may stand ahead of y. -/
def Le {α : Type} (f : α → α → Int) (x y : α) : Prop := 0 ≤ f y x
def Srt {α : Type} (f : α → α → Int) (l : List α) : Prop := l.Pairwise (Le f)

section
variable {α : Type} {f : α → α → Int}
theorem Srt.app {A B : List α} : Srt f (A ++ B) ↔ Srt f A ∧ Srt f B ∧ ∀ x ∈ A, ∀ y ∈ B, Le f x y := List.pairwise_append
theorem Srt.last (o : Ord α f) {A : List α} {x y : α} (h : Srt f (A ++ [y])) (hx : x ∈ A ++ [y]) : Le f x y := by
  rw [Srt.app] at h
  simp only [List.mem_append, List.mem_singleton] at hx
  rcases hx with hx | rfl
  · exact h.2.2 x hx y (by simp)
  · exact o.refl _
theorem Srt.first (o : Ord α f) {B : List α} {x y : α} (h : Srt f (x :: B)) (hy : y ∈ x :: B) : Le f x y := by
  have := List.pairwise_cons.1 h
  rcases List.mem_cons.1 hy with rfl | hy
  · exact o.refl _
  · exact this.1 y hy
/-- One that is put where it belongs. -/
theorem Srt.ins (o : Ord α f) {A B : List α} {z : α} (h : Srt f (A ++ B)) (h1 : ∀ x, A.getLast? = some x → Le f x z) (h2 : ∀ y, B.head? = some y → Le f z y) : Srt f (A ++ z :: B) := by
  rw [Srt.app] at h ⊢
  obtain ⟨hA, hB, hAB⟩ := h
  have a1 : ∀ x ∈ A, Le f x z := by
    intro x hx
    rcases List.eq_nil_or_concat A with rfl | ⟨q, l, rfl⟩
    · simp at hx
    · rw [List.concat_eq_append] at *
      exact o.trans _ _ _ (Srt.last o hA hx) (h1 l (by simp))
  have b1 : ∀ y ∈ B, Le f z y := by
    intro y hy
    cases B with
    | nil => simp at hy
    | cons b B => exact o.trans _ _ _ (h2 b rfl) (Srt.first o hB hy)
  refine ⟨hA, List.pairwise_cons.2 ⟨b1, hB⟩, fun x hx y hy => ?_⟩
  rcases List.mem_cons.1 hy with rfl | hy
  · exact a1 x hx
  · exact hAB x hx y hy
/-- Two rows are parted so that the front parts go ahead of the back parts. -/
theorem parted (o : Ord α f) {A1 A2 B1 B2 : List α} (hA : Srt f (A1 ++ A2)) (hB : Srt f (B1 ++ B2)) (h1 : ∀ x y, A1.getLast? = some x → B2.head? = some y → Le f x y) (h2 : ∀ x y, B1.getLast? = some x → A2.head? = some y → Le f x y) :
    ∀ x ∈ A1 ++ B1, ∀ y ∈ A2 ++ B2, Le f x y := by
  rw [Srt.app] at hA hB
  have cross : ∀ {U V : List α}, Srt f U → Srt f V → (∀ x y, U.getLast? = some x → V.head? = some y → Le f x y) → ∀ x ∈ U, ∀ y ∈ V, Le f x y := by
    intro U V hU hV h x hx y hy
    rcases List.eq_nil_or_concat U with rfl | ⟨q, l, rfl⟩
    · simp at hx
    rw [List.concat_eq_append] at *
    cases V with
    | nil => simp at hy
    | cons v V => exact o.trans _ _ _ (Srt.last o hU hx) (o.trans _ _ _ (h l v (by simp) rfl) (Srt.first o hV hy))
  intro x hx y hy
  simp only [List.mem_append] at hx hy
  rcases hx with hx | hx <;> rcases hy with hy | hy
  · exact hA.2.2 x hx y hy
  · exact cross hA.1 hB.2.1 h1 x hx y hy
  · exact cross hB.1 hA.2.1 h2 x hx y hy
  · exact hB.2.2 x hx y hy
theorem Srt.of_perm {A B : List α} {C D : List α} (hC : Srt f C) (hD : Srt f D) (pC : C.Perm A) (pD : D.Perm B) (h : ∀ x ∈ A, ∀ y ∈ B, Le f x y) : Srt f (C ++ D) :=
  Srt.app.2 ⟨hC, hD, fun x hx y hy => h x (pC.mem_iff.1 hx) y (pD.mem_iff.1 hy)⟩

/-- Swaps, at places. -/
theorem swap_at {P M S : List α} {x y : α} : ((P ++ x :: M ++ y :: S).set P.length y).set (P.length + 1 + M.length) x = P ++ y :: M ++ x :: S := by
  have e1 : (P ++ x :: M ++ y :: S).set P.length y = P ++ y :: M ++ y :: S := by simp
  rw [e1]
  rw [List.set_append_right _ _ (by simp; omega)]
  congr 1
  have : P.length + 1 + M.length - (P ++ y :: M).length = 0 := by simp; omega
  rw [this]; rfl
theorem swap_at' {P M S : List α} {x y : α} : ((P ++ x :: M ++ y :: S).set (P.length + 1 + M.length) x).set P.length y = P ++ y :: M ++ x :: S := by
  rw [List.set_comm _ _ (by omega)]
  exact swap_at
theorem getLast_take {A : List α} {i : Nat} (h : 0 < i) (h2 : i ≤ A.length) : (A.take i).getLast? = A[i - 1]? := by
  rw [List.getLast?_eq_getElem?, List.length_take, List.getElem?_take_of_lt (by omega)]
  congr 1; omega
theorem head_drop {A : List α} {i : Nat} : (A.drop i).head? = A[i]? := by
  rw [List.head?_eq_getElem?, List.getElem?_drop]; rfl
theorem swap_step {P X M Y S : List α} {i : Nat} {x y : α} (hx : X[i]? = some x) (hy : Y[i]? = some y) (hn : X.length = Y.length) :
    let D := P ++ (Y.take i ++ X.drop i) ++ M ++ (X.take i ++ Y.drop i) ++ S
    D[P.length + i]? = some x ∧ D[P.length + X.length + M.length + i]? = some y ∧ P.length + i < D.length ∧ P.length + X.length + M.length + i < D.length ∧
      (D.set (P.length + i) y).set (P.length + X.length + M.length + i) x = P ++ (Y.take (i + 1) ++ X.drop (i + 1)) ++ M ++ (X.take (i + 1) ++ Y.drop (i + 1)) ++ S := by
  intro D
  have hi := (List.getElem?_eq_some_iff.1 hx).1
  have e : D = (P ++ Y.take i) ++ x :: (X.drop (i + 1) ++ M ++ X.take i) ++ y :: (Y.drop (i + 1) ++ S) := by
    show P ++ (Y.take i ++ X.drop i) ++ M ++ (X.take i ++ Y.drop i) ++ S = _
    rw [drop_cons' hx, drop_cons' hy]; simp
  have l1 : (P ++ Y.take i).length = P.length + i := by rw [List.length_append, List.length_take]; omega
  have l2 : (X.drop (i + 1) ++ M ++ X.take i).length = X.length - 1 + M.length := by simp; omega
  have lD : D.length = P.length + i + 1 + (X.length - 1 + M.length) + 1 + (Y.drop (i + 1) ++ S).length := by rw [e]; simp only [List.length_append, List.length_cons] at l1 l2 ⊢; omega
  have key := swap_at (P := P ++ Y.take i) (M := X.drop (i + 1) ++ M ++ X.take i) (S := Y.drop (i + 1) ++ S) (x := x) (y := y)
  rw [l1, l2, ← e] at key
  refine ⟨?_, ?_, by omega, by omega, ?_⟩
  · rw [e, List.append_assoc, List.getElem?_append_right (by omega), l1]
    have : P.length + i - (P.length + i) = 0 := by omega
    rw [this]; rfl
  · rw [e, List.getElem?_append_right (by simp only [List.length_append, List.length_cons] at l1 l2 ⊢; omega)]
    have : P.length + X.length + M.length + i - ((P ++ Y.take i) ++ x :: (X.drop (i + 1) ++ M ++ X.take i)).length = 0 := by simp only [List.length_append, List.length_cons] at l1 l2 ⊢; omega
    rw [this]; rfl
  · have : P.length + X.length + M.length + i = P.length + i + 1 + (X.length - 1 + M.length) := by omega
    rw [this, key, take_snoc' hx, take_snoc' hy]; simp
theorem half_i64 {i j : Nat} (h : i + j ≤ 2000000) : IntKind.i64.wrap (shrN .u64 (IntKind.u64.wrap (IntKind.i64.wrap ((i : Int) + (j : Int)))) 1) = (((i + j) / 2 : Nat) : Int) := by
  rw [wrap_i64 (n := (i : Int) + (j : Int)) (by omega) (by omega)]
  have e : IntKind.u64.wrap ((i : Int) + (j : Int)) = (i : Int) + (j : Int) := by unfold IntKind.wrap; simp [IntKind.bits, IntKind.signed]; omega
  rw [e]
  have e2 : shrN .u64 ((i : Int) + (j : Int)) 1 = (((i + j) / 2 : Nat) : Int) := by
    unfold shrN
    have : min (1 : Int).toNat (IntKind.u64.bits) = 1 := by decide
    rw [this, Int.fdiv_eq_ediv_of_nonneg _ (by decide)]
    omega
  rw [e2, wrap_i64 (by omega) (by omega)]
theorem adj {P S : List α} {u v : α} {i : Nat} (hi : P.length = i) : let D := P ++ u :: v :: S
    D[i]? = some u ∧ D[i + 1]? = some v ∧ i + 1 < D.length ∧ (D.set i v).set (i + 1) u = P ++ v :: u :: S ∧ (D.set (i + 1) u).set i v = P ++ v :: u :: S := by
  intro D
  subst hi
  have e1 : (D.set P.length v).set (P.length + 1) u = P ++ v :: u :: S := by
    have := swap_at (P := P) (M := []) (S := S) (x := u) (y := v)
    simpa [D] using this
  refine ⟨by simp [D], ?_, by simp [D], e1, by rw [List.set_comm _ _ (by omega)]; exact e1⟩
  show (P ++ u :: v :: S)[P.length + 1]? = some v
  rw [List.getElem?_append_right (by omega)]
  have : P.length + 1 - P.length = 1 := by omega
  rw [this]; rfl
theorem at_mid {P X S : List α} {i : Nat} {x : α} (h : X[i]? = some x) : (P ++ X ++ S)[P.length + i]? = some x := by
  have hi := (List.getElem?_eq_some_iff.1 h).1
  rw [List.append_assoc, List.getElem?_append_right (by omega), List.getElem?_append_left (by omega)]
  have : P.length + i - P.length = i := by omega
  rw [this]; exact h
/-- Sorted blocks of a size, and what is left. -/
structure Blks (f : α → α → Int) (bs : Nat) (LL : List (List α)) (last : List α) : Prop where
  full : ∀ B ∈ LL, B.length = bs ∧ Srt f B
  rest : last.length < bs
  srt : Srt f last
theorem flat_len {bs : Nat} : ∀ {LL : List (List α)}, (∀ B ∈ LL, B.length = bs) → LL.flatten.length = LL.length * bs
  | [], _ => by simp
  | B :: LL, h => by
    rw [List.flatten_cons, List.length_append, h B (by simp), flat_len fun C hC => h C (by simp [hC]), List.length_cons, Nat.add_mul]; omega
end
end Go.Br
