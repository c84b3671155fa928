/- SortPure, SortInt -/
import Derived.Test.YtmdkhgibipojcaaGreatBrSep
import Derived.Test.YtmdkhgibipojcaaGreatBrSeat
import Derived.Test.YtmdkhgibipojcaaGreatBrOwn
/- Plain lists that are sorted: what rotating, merging, inserting do. -/
set_option linter.unusedVariables false
set_option linter.unusedSimpArgs false
set_option linter.unnecessarySimpa false
namespace Go.Br
open Go

/-- An order by a comparison: what isn't behind. -/
structure Ord (α : Type) (f : α → α → Int) : Prop where
  refl : ∀ x, 0 ≤ f x x
  trans : ∀ x y z, 0 ≤ f y x → 0 ≤ f z y → 0 ≤ f z x
  total : ∀ x y, f x y < 0 → 0 ≤ f y x
/-- x may stand ahead of y. -/
def Le {α : Type} (f : α → α → Int) (x y : α) : Prop := 0 ≤ f y x
def Srt {α : Type} (f : α → α → Int) (l : List α) : Prop := l.Pairwise (Le f)

section
variable {α : Type} {f : α → α → Int}
theorem Srt.app {A B : List α} : Srt f (A ++ B) ↔ Srt f A ∧ Srt f B ∧ ∀ x ∈ A, ∀ y ∈ B, Le f x y := List.pairwise_append
theorem Srt.last (o : Ord α f) {A : List α} {x y : α} (h : Srt f (A ++ [y])) (hx : x ∈ A ++ [y]) : Le f x y := by
  rw [Srt.app] at h
  simp only [List.mem_append, List.mem_singleton] at hx
  rcases hx with hx | rfl
  · exact h.2.2 x hx y (by simp)
  · exact o.refl _
theorem Srt.first (o : Ord α f) {B : List α} {x y : α} (h : Srt f (x :: B)) (hy : y ∈ x :: B) : Le f x y := by
  have := List.pairwise_cons.1 h
  rcases List.mem_cons.1 hy with rfl | hy
  · exact o.refl _
  · exact this.1 y hy
/-- One that is put where it belongs. -/
theorem Srt.ins (o : Ord α f) {A B : List α} {z : α} (h : Srt f (A ++ B)) (h1 : ∀ x, A.getLast? = some x → Le f x z) (h2 : ∀ y, B.head? = some y → Le f z y) : Srt f (A ++ z :: B) := by
  rw [Srt.app] at h ⊢
  obtain ⟨hA, hB, hAB⟩ := h
  have a1 : ∀ x ∈ A, Le f x z := by
    intro x hx
    rcases List.eq_nil_or_concat A with rfl | ⟨q, l, rfl⟩
    · simp at hx
    · rw [List.concat_eq_append] at *
      exact o.trans _ _ _ (Srt.last o hA hx) (h1 l (by simp))
  have b1 : ∀ y ∈ B, Le f z y := by
    intro y hy
    cases B with
    | nil => simp at hy
    | cons b B => exact o.trans _ _ _ (h2 b rfl) (Srt.first o hB hy)
  refine ⟨hA, List.pairwise_cons.2 ⟨b1, hB⟩, fun x hx y hy => ?_⟩
  rcases List.mem_cons.1 hy with rfl | hy
  · exact a1 x hx
  · exact hAB x hx y hy
/-- Two rows are parted so that the front parts go ahead of the back parts. -/
theorem parted (o : Ord α f) {A1 A2 B1 B2 : List α} (hA : Srt f (A1 ++ A2)) (hB : Srt f (B1 ++ B2)) (h1 : ∀ x y, A1.getLast? = some x → B2.head? = some y → Le f x y) (h2 : ∀ x y, B1.getLast? = some x → A2.head? = some y → Le f x y) :
    ∀ x ∈ A1 ++ B1, ∀ y ∈ A2 ++ B2, Le f x y := by
  rw [Srt.app] at hA hB
  have cross : ∀ {U V : List α}, Srt f U → Srt f V → (∀ x y, U.getLast? = some x → V.head? = some y → Le f x y) → ∀ x ∈ U, ∀ y ∈ V, Le f x y := by
    intro U V hU hV h x hx y hy
    rcases List.eq_nil_or_concat U with rfl | ⟨q, l, rfl⟩
    · simp at hx
    rw [List.concat_eq_append] at *
    cases V with
    | nil => simp at hy
    | cons v V => exact o.trans _ _ _ (Srt.last o hU hx) (o.trans _ _ _ (h l v (by simp) rfl) (Srt.first o hV hy))
  intro x hx y hy
  simp only [List.mem_append] at hx hy
  rcases hx with hx | hx <;> rcases hy with hy | hy
  · exact hA.2.2 x hx y hy
  · exact cross hA.1 hB.2.1 h1 x hx y hy
  · exact cross hB.1 hA.2.1 h2 x hx y hy
  · exact hB.2.2 x hx y hy
theorem Srt.of_perm {A B : List α} {C D : List α} (hC : Srt f C) (hD : Srt f D) (pC : C.Perm A) (pD : D.Perm B) (h : ∀ x ∈ A, ∀ y ∈ B, Le f x y) : Srt f (C ++ D) :=
  Srt.app.2 ⟨hC, hD, fun x hx y hy => h x (pC.mem_iff.1 hx) y (pD.mem_iff.1 hy)⟩

/-- Swaps, at places. -/
theorem swap_at {P M S : List α} {x y : α} : ((P ++ x :: M ++ y :: S).set P.length y).set (P.length + 1 + M.length) x = P ++ y :: M ++ x :: S := by
  have e1 : (P ++ x :: M ++ y :: S).set P.length y = P ++ y :: M ++ y :: S := by simp
  rw [e1]
  rw [List.set_append_right _ _ (by simp; omega)]
  congr 1
  have : P.length + 1 + M.length - (P ++ y :: M).length = 0 := by simp; omega
  rw [this]; rfl
theorem swap_at' {P M S : List α} {x y : α} : ((P ++ x :: M ++ y :: S).set (P.length + 1 + M.length) x).set P.length y = P ++ y :: M ++ x :: S := by
  rw [List.set_comm _ _ (by omega)]
  exact swap_at
theorem getLast_take {A : List α} {i : Nat} (h : 0 < i) (h2 : i ≤ A.length) : (A.take i).getLast? = A[i - 1]? := by
  rw [List.getLast?_eq_getElem?, List.length_take, List.getElem?_take_of_lt (by omega)]
  congr 1; omega
theorem head_drop {A : List α} {i : Nat} : (A.drop i).head? = A[i]? := by
  rw [List.head?_eq_getElem?, List.getElem?_drop]; rfl
theorem swap_step {P X M Y S : List α} {i : Nat} {x y : α} (hx : X[i]? = some x) (hy : Y[i]? = some y) (hn : X.length = Y.length) :
    let D := P ++ (Y.take i ++ X.drop i) ++ M ++ (X.take i ++ Y.drop i) ++ S
    D[P.length + i]? = some x ∧ D[P.length + X.length + M.length + i]? = some y ∧ P.length + i < D.length ∧ P.length + X.length + M.length + i < D.length ∧
      (D.set (P.length + i) y).set (P.length + X.length + M.length + i) x = P ++ (Y.take (i + 1) ++ X.drop (i + 1)) ++ M ++ (X.take (i + 1) ++ Y.drop (i + 1)) ++ S := by
  intro D
  have hi := (List.getElem?_eq_some_iff.1 hx).1
  have e : D = (P ++ Y.take i) ++ x :: (X.drop (i + 1) ++ M ++ X.take i) ++ y :: (Y.drop (i + 1) ++ S) := by
    show P ++ (Y.take i ++ X.drop i) ++ M ++ (X.take i ++ Y.drop i) ++ S = _
    rw [drop_cons' hx, drop_cons' hy]; simp
  have l1 : (P ++ Y.take i).length = P.length + i := by rw [List.length_append, List.length_take]; omega
  have l2 : (X.drop (i + 1) ++ M ++ X.take i).length = X.length - 1 + M.length := by simp; omega
  have lD : D.length = P.length + i + 1 + (X.length - 1 + M.length) + 1 + (Y.drop (i + 1) ++ S).length := by rw [e]; simp only [List.length_append, List.length_cons] at l1 l2 ⊢; omega
  have key := swap_at (P := P ++ Y.take i) (M := X.drop (i + 1) ++ M ++ X.take i) (S := Y.drop (i + 1) ++ S) (x := x) (y := y)
  rw [l1, l2, ← e] at key
  refine ⟨?_, ?_, by omega, by omega, ?_⟩
  · rw [e, List.append_assoc, List.getElem?_append_right (by omega), l1]
    have : P.length + i - (P.length + i) = 0 := by omega
    rw [this]; rfl
  · rw [e, List.getElem?_append_right (by simp only [List.length_append, List.length_cons] at l1 l2 ⊢; omega)]
    have : P.length + X.length + M.length + i - ((P ++ Y.take i) ++ x :: (X.drop (i + 1) ++ M ++ X.take i)).length = 0 := by simp only [List.length_append, List.length_cons] at l1 l2 ⊢; omega
    rw [this]; rfl
  · have : P.length + X.length + M.length + i = P.length + i + 1 + (X.length - 1 + M.length) := by omega
    rw [this, key, take_snoc' hx, take_snoc' hy]; simp
theorem half_i64 {i j : Nat} (h : i + j ≤ 2000000) : IntKind.i64.wrap (shrN .u64 (IntKind.u64.wrap (IntKind.i64.wrap ((i : Int) + (j : Int)))) 1) = (((i + j) / 2 : Nat) : Int) := by
  rw [wrap_i64 (n := (i : Int) + (j : Int)) (by omega) (by omega)]
  have e : IntKind.u64.wrap ((i : Int) + (j : Int)) = (i : Int) + (j : Int) := by unfold IntKind.wrap; simp [IntKind.bits, IntKind.signed]; omega
  rw [e]
  have e2 : shrN .u64 ((i : Int) + (j : Int)) 1 = (((i + j) / 2 : Nat) : Int) := by
    unfold shrN
    have : min (1 : Int).toNat (IntKind.u64.bits) = 1 := by decide
    rw [this, Int.fdiv_eq_ediv_of_nonneg _ (by decide)]
    omega
  rw [e2, wrap_i64 (by omega) (by omega)]
theorem adj {P S : List α} {u v : α} {i : Nat} (hi : P.length = i) : let D := P ++ u :: v :: S
    D[i]? = some u ∧ D[i + 1]? = some v ∧ i + 1 < D.length ∧ (D.set i v).set (i + 1) u = P ++ v :: u :: S ∧ (D.set (i + 1) u).set i v = P ++ v :: u :: S := by
  intro D
  subst hi
  have e1 : (D.set P.length v).set (P.length + 1) u = P ++ v :: u :: S := by
    have := swap_at (P := P) (M := []) (S := S) (x := u) (y := v)
    simpa [D] using this
  refine ⟨by simp [D], ?_, by simp [D], e1, by rw [List.set_comm _ _ (by omega)]; exact e1⟩
  show (P ++ u :: v :: S)[P.length + 1]? = some v
  rw [List.getElem?_append_right (by omega)]
  have : P.length + 1 - P.length = 1 := by omega
  rw [this]; rfl
theorem at_mid {P X S : List α} {i : Nat} {x : α} (h : X[i]? = some x) : (P ++ X ++ S)[P.length + i]? = some x := by
  have hi := (List.getElem?_eq_some_iff.1 h).1
  rw [List.append_assoc, List.getElem?_append_right (by omega), List.getElem?_append_left (by omega)]
  have : P.length + i - P.length = i := by omega
  rw [this]; exact h
/-- Sorted blocks of a size, and what is left. -/
structure Blks (f : α → α → Int) (bs : Nat) (LL : List (List α)) (last : List α) : Prop where
  full : ∀ B ∈ LL, B.length = bs ∧ Srt f B
  rest : last.length < bs
  srt : Srt f last
theorem flat_len {bs : Nat} : ∀ {LL : List (List α)}, (∀ B ∈ LL, B.length = bs) → LL.flatten.length = LL.length * bs
  | [], _ => by simp
  | B :: LL, h => by
    rw [List.flatten_cons, List.length_append, h B (by simp), flat_len fun C hC => h C (by simp [hC]), List.length_cons, Nat.add_mul]; omega
end
end Go.Br

/- What the code of some functions says, as the core reads it; each reading is checked by the kernel. -/
set_option linter.unusedVariables false
set_option maxRecDepth 100000
namespace Go.Br
open Go Go.Proofs

/-- slices.Sort[[]int,int] -/
def N77 (x : Option Addr) (xN xC : Nat) (w : World) (Q : Value → World → Prop) : Prop :=
 LETI (xN : Int) fun n =>
 CALL PG 113 [(.int .u64 (IntKind.u64.wrap n))] w fun v w1 =>
 ∃ x9 : Int, v = (.int .i64 x9) ∧
 (CALL PG 112 [(.slice x xN xC), (.int .i64 (0 : Int)), (.int .i64 n), (.int .i64 x9)] w1 fun v1 w2 =>
 v1 = (.tuple #[]) ∧
 (Q (.tuple #[]) w2))
theorem eq77 : ∀ (x : Option Addr) (xN xC : Nat) (w : World) (Q : Value → World → Prop), vcF PG TB Tryz.f77 .nil [(.slice x xN xC)] w Q = N77 x xN xC w Q := by intros; kernel_rfl
theorem call77 {x : Option Addr} {xN xC : Nat} {w : World} {Q : Value → World → Prop} (hN : N77 x xN xC w Q) : CALL PG 77 [(.slice x xN xC)] w Q := calls_vc tabOk Tryz.func77 (by rw [eq77]; exact hN)

/-- slices.pdqsortOrdered[int] -/
def N112 (data : Option Addr) (dataN dataC : Nat) (a : Int) (b : Int) (limit : Int) (w : World) (Q : Value → World → Prop) : Prop :=
 ∃ I : Nat → Int → Int → Int → Bool → Bool → World → Prop,
 (∃ m, I m a b limit true true w) ∧
 (∀ m1 (a1 : Int) (b1 : Int) (limit1 : Int) (wasBalanced : Bool) (wasPartitioned : Bool) (w1 : World), I m1 a1 b1 limit1 wasBalanced wasPartitioned w1 → (LETI (IntKind.i64.wrap (b1 - a1)) fun length =>
 IFB (decide (length ≤ (12 : Int)))
 (CALL PG 161 [(.slice data dataN dataC), (.int .i64 a1), (.int .i64 b1)] w1 fun v w2 =>
 v = (.tuple #[]) ∧
 (Q (.tuple #[]) w2))
 (IFB (limit1 == (0 : Int))
 (CALL PG 162 [(.slice data dataN dataC), (.int .i64 a1), (.int .i64 b1)] w1 fun v1 w3 =>
 v1 = (.tuple #[]) ∧
 (Q (.tuple #[]) w3))
 (∃ R : Int → World → Prop,
 (IFB (!wasBalanced)
 (CALL PG 163 [(.slice data dataN dataC), (.int .i64 a1), (.int .i64 b1)] w1 fun v2 w4 =>
 v2 = (.tuple #[]) ∧
 (LETI (IntKind.i64.wrap (limit1 - (1 : Int))) fun limit2 =>
 R limit2 w4))
 (R limit1 w1)) ∧
 (∀ (limit3 : Int) (w5 : World), R limit3 w5 → (CALL PG 164 [(.slice data dataN dataC), (.int .i64 a1), (.int .i64 b1)] w5 fun v3 w6 =>
 ∃ x46 : Int, ∃ x46v1 : Int, v3 = (.tuple #[(.int .i64 x46), (.int .i64 x46v1)]) ∧
 (LETI x46 fun pivot =>
 LETI x46v1 fun hint =>
 ∃ R1 : Int → Int → World → Prop,
 (IFB (hint == (2 : Int))
 (CALL PG 165 [(.slice data dataN dataC), (.int .i64 a1), (.int .i64 b1)] w6 fun v4 w7 =>
 v4 = (.tuple #[]) ∧
 (LETI (IntKind.i64.wrap ((IntKind.i64.wrap (b1 - (1 : Int))) - (IntKind.i64.wrap (pivot - a1)))) fun pivot1 =>
 R1 pivot1 (1 : Int) w7))
 (R1 pivot hint w6)) ∧
 (∀ (pivot2 : Int) (hint1 : Int) (w8 : World), R1 pivot2 hint1 w8 → (∃ R2 : World → Prop,
 (IFB wasBalanced
 (IFB wasPartitioned
 (IFB (hint1 == (1 : Int))
 (CALL PG 166 [(.slice data dataN dataC), (.int .i64 a1), (.int .i64 b1)] w8 fun v5 w9 =>
 ∃ x72 : Bool, v5 = (.bool x72) ∧
 (IFB x72
 (Q (.tuple #[]) w9)
 (R2 w9)))
 (R2 w8))
 (R2 w8))
 (R2 w8)) ∧
 (∀  (w10 : World), R2 w10 → (∃ R3 : Int → World → Prop,
 (IFB (decide (a1 > (0 : Int)))
 (IDX data dataN (IntKind.i64.wrap (a1 - (1 : Int))) fun a79 =>
 RDI PG (loadVar 3 (Addr.add a79 (Int.toNat (IntKind.i64.wrap (a1 - (1 : Int))) * 1))) .i64 (w10.drew) fun x80 =>
 IDX data dataN pivot2 fun a83 =>
 RDI PG (loadVar 3 (Addr.add a83 (Int.toNat pivot2 * 1))) .i64 (w10.drew) fun x84 =>
 CALL PG 167 [(.int .i64 x80), (.int .i64 x84)] (w10.drew) fun v6 w11 =>
 ∃ x85 : Bool, v6 = (.bool x85) ∧
 (IFB (!x85)
 (CALL PG 168 [(.slice data dataN dataC), (.int .i64 a1), (.int .i64 b1), (.int .i64 pivot2)] w11 fun v7 w12 =>
 ∃ x92 : Int, v7 = (.int .i64 x92) ∧
 (LETI x92 fun mid =>
 LETI mid fun a2 =>
 ∃ m2, m2 < m1 ∧ I m2 a2 b1 limit3 wasBalanced wasPartitioned w12))
 (R3 a1 w11)))
 (R3 a1 (w10.drew))) ∧
 (∀ (a3 : Int) (w13 : World), R3 a3 w13 → (CALL PG 169 [(.slice data dataN dataC), (.int .i64 a3), (.int .i64 b1), (.int .i64 pivot2)] w13 fun v8 w14 =>
 ∃ x99 : Int, ∃ x99v1 : Bool, v8 = (.tuple #[(.int .i64 x99), (.bool x99v1)]) ∧
 (LETI x99 fun mid1 =>
 LETB x99v1 fun alreadyPartitioned =>
 LETB alreadyPartitioned fun wasPartitioned1 =>
 LETI (IntKind.i64.wrap (mid1 - a3)) fun leftLen =>
 LETI (IntKind.i64.wrap (b1 - mid1)) fun rightLen =>
 NEED ((8 : Int) ≠ 0)
 (LETI (IntKind.i64.wrap (Int.tdiv length (8 : Int))) fun balanceThreshold =>
 IFB (decide (leftLen < rightLen))
 (LETB (decide (leftLen ≥ balanceThreshold)) fun wasBalanced1 =>
 CALL PG 112 [(.slice data dataN dataC), (.int .i64 a3), (.int .i64 mid1), (.int .i64 limit3)] w14 fun v9 w15 =>
 v9 = (.tuple #[]) ∧
 (LETI (IntKind.i64.wrap (mid1 + (1 : Int))) fun a4 =>
 ∃ m3, m3 < m1 ∧ I m3 a4 b1 limit3 wasBalanced1 wasPartitioned1 w15))
 (LETB (decide (rightLen ≥ balanceThreshold)) fun wasBalanced2 =>
 CALL PG 112 [(.slice data dataN dataC), (.int .i64 (IntKind.i64.wrap (mid1 + (1 : Int)))), (.int .i64 b1), (.int .i64 limit3)] w14 fun v10 w16 =>
 v10 = (.tuple #[]) ∧
 (LETI mid1 fun b2 =>
 ∃ m4, m4 < m1 ∧ I m4 a3 b2 limit3 wasBalanced2 wasPartitioned1 w16)))))))))))))))))
theorem eq112 : ∀ (data : Option Addr) (dataN dataC : Nat) (a : Int) (b : Int) (limit : Int) (w : World) (Q : Value → World → Prop), vcF PG TB Tryz.f112 (.s .nil (.s .nil (.u (.loop [(1, 3), (2, 3), (3, 3), (8, 4), (9, 4)] (.u (.s .nil (.s .nil (.s .nil (.cut [(3, 3)] .nil (.s .nil (.cut [(11, 3), (12, 262)] .nil (.cut [] .nil (.cut [(1, 3)] .nil .nil))))))))))))) [(.slice data dataN dataC), (.int .i64 a), (.int .i64 b), (.int .i64 limit)] w Q = N112 data dataN dataC a b limit w Q := by intros; kernel_rfl
theorem call112 {data : Option Addr} {dataN dataC : Nat} {a : Int} {b : Int} {limit : Int} {w : World} {Q : Value → World → Prop} (hN : N112 data dataN dataC a b limit w Q) : CALL PG 112 [(.slice data dataN dataC), (.int .i64 a), (.int .i64 b), (.int .i64 limit)] w Q := calls_vc tabOk Tryz.func112 (by rw [eq112]; exact hN)

/-- math/bits.Len -/
def N113 (x : Int) (w : World) (Q : Value → World → Prop) : Prop :=
 CALL PG 171 [(.int .u64 x)] w fun v w1 =>
 ∃ x7 : Int, v = (.int .i64 x7) ∧
 (LETI x7 fun x2 =>
 Q (.int .i64 x2) w1)
theorem eq113 : ∀ (x : Int) (w : World) (Q : Value → World → Prop), vcF PG TB Tryz.f113 .nil [(.int .u64 x)] w Q = N113 x w Q := by intros; kernel_rfl
theorem call113 {x : Int} {w : World} {Q : Value → World → Prop} (hN : N113 x w Q) : CALL PG 113 [(.int .u64 x)] w Q := calls_vc tabOk Tryz.func113 (by rw [eq113]; exact hN)

/-- slices.insertionSortOrdered[int] -/
def N161 (data : Option Addr) (dataN dataC : Nat) (a : Int) (b : Int) (w : World) (Q : Value → World → Prop) : Prop :=
 LETI (IntKind.i64.wrap (a + (1 : Int))) fun i =>
 ∃ I : Nat → Int → World → Prop,
 (∃ m, I m i w) ∧
 (∀ m1 (i1 : Int) (w1 : World), I m1 i1 w1 → (IFB (decide (i1 < b))
 (LETI i1 fun j =>
 ∃ I1 : Nat → Int → World → Prop,
 (∃ m2, I1 m2 j w1) ∧
 (∀ m3 (j1 : Int) (w2 : World), I1 m3 j1 w2 → (IFB (decide (j1 > a))
 (IDX data dataN j1 fun a22 =>
 RDI PG (loadVar 3 (Addr.add a22 (Int.toNat j1 * 1))) .i64 (w2.drew) fun x23 =>
 IDX data dataN (IntKind.i64.wrap (j1 - (1 : Int))) fun a27 =>
 RDI PG (loadVar 3 (Addr.add a27 (Int.toNat (IntKind.i64.wrap (j1 - (1 : Int))) * 1))) .i64 (w2.drew) fun x28 =>
 CALL PG 167 [(.int .i64 x23), (.int .i64 x28)] (w2.drew) fun v w3 =>
 ∃ x29 : Bool, v = (.bool x29) ∧
 (IFB x29
 (IDX data dataN (IntKind.i64.wrap (j1 - (1 : Int))) fun a41 =>
 RDI PG (loadVar 3 (Addr.add a41 (Int.toNat (IntKind.i64.wrap (j1 - (1 : Int))) * 1))) .i64 (w3.drew) fun x42 =>
 IDX data dataN j1 fun a45 =>
 RDI PG (loadVar 3 (Addr.add a45 (Int.toNat j1 * 1))) .i64 (w3.drew) fun x46 =>
 IDX data dataN j1 fun a47 =>
 RUNU PG (storeVar 3 (Addr.add a47 (Int.toNat j1 * 1)) (.int .i64 x42)) (w3.drew) fun w4 =>
 IDX data dataN (IntKind.i64.wrap (j1 - (1 : Int))) fun a48 =>
 RUNU PG (storeVar 3 (Addr.add a48 (Int.toNat (IntKind.i64.wrap (j1 - (1 : Int))) * 1)) (.int .i64 x46)) w4 fun w5 =>
 LETI (IntKind.i64.wrap (j1 - (1 : Int))) fun j2 =>
 ∃ m4, m4 < m3 ∧ I1 m4 j2 w5)
 (LETI (IntKind.i64.wrap (i1 + (1 : Int))) fun i2 =>
 ∃ m5, m5 < m1 ∧ I m5 i2 w3)))
 (LETI (IntKind.i64.wrap (i1 + (1 : Int))) fun i3 =>
 ∃ m6, m6 < m1 ∧ I m6 i3 (w2.drew)))))
 (Q (.tuple #[]) w1)))
theorem eq161 : ∀ (data : Option Addr) (dataN dataC : Nat) (a : Int) (b : Int) (w : World) (Q : Value → World → Prop), vcF PG TB Tryz.f161 (.s .nil (.u (.loop [(6, 3)] (.s .nil (.s (.u (.s .nil (.u (.loop [(7, 3)] .nil)))) .nil))))) [(.slice data dataN dataC), (.int .i64 a), (.int .i64 b)] w Q = N161 data dataN dataC a b w Q := by intros; kernel_rfl
theorem call161 {data : Option Addr} {dataN dataC : Nat} {a : Int} {b : Int} {w : World} {Q : Value → World → Prop} (hN : N161 data dataN dataC a b w Q) : CALL PG 161 [(.slice data dataN dataC), (.int .i64 a), (.int .i64 b)] w Q := calls_vc tabOk Tryz.func161 (by rw [eq161]; exact hN)

/-- cmp.Less[int] -/
def N167 (x : Int) (y : Int) (w : World) (Q : Value → World → Prop) : Prop :=
 CALL PG 211 [(.int .i64 x)] w fun v w1 =>
 ∃ x6 : Bool, v = (.bool x6) ∧
 (IFB x6
 (CALL PG 211 [(.int .i64 y)] w1 fun v1 w2 =>
 ∃ x9 : Bool, v1 = (.bool x9) ∧
 (IFB (!x9)
 (LETB true fun x4 =>
 Q (.bool x4) w2)
 (LETB (decide (x < y)) fun x4v1 =>
 Q (.bool x4v1) w2)))
 (LETB (decide (x < y)) fun x4v2 =>
 Q (.bool x4v2) w1))
theorem eq167 : ∀ (x : Int) (y : Int) (w : World) (Q : Value → World → Prop), vcF PG TB Tryz.f167 .nil [(.int .i64 x), (.int .i64 y)] w Q = N167 x y w Q := by intros; kernel_rfl
theorem call167 {x : Int} {y : Int} {w : World} {Q : Value → World → Prop} (hN : N167 x y w Q) : CALL PG 167 [(.int .i64 x), (.int .i64 y)] w Q := calls_vc tabOk Tryz.func167 (by rw [eq167]; exact hN)

/-- math/bits.Len64 -/
def N171 (x : Int) (w : World) (Q : Value → World → Prop) : Prop :=
 ∃ R : Int → Int → World → Prop,
 (IFB (decide (x ≥ (4294967296 : Int)))
 (NEED (0 ≤ (32 : Int))
 (LETI (shrN .u64 x (32 : Int)) fun x1 =>
 R x1 (32 : Int) w))
 (R x (0 : Int) w)) ∧
 (∀ (x2 : Int) (n : Int) (w1 : World), R x2 n w1 → (∃ R1 : Int → Int → World → Prop,
 (IFB (decide (x2 ≥ (65536 : Int)))
 (NEED (0 ≤ (16 : Int))
 (LETI (shrN .u64 x2 (16 : Int)) fun x3 =>
 LETI (IntKind.i64.wrap (n + (16 : Int))) fun n1 =>
 R1 x3 n1 w1))
 (R1 x2 n w1)) ∧
 (∀ (x4 : Int) (n2 : Int) (w2 : World), R1 x4 n2 w2 → (IFB (decide (x4 ≥ (256 : Int)))
 (NEED (0 ≤ (8 : Int))
 (LETI (shrN .u64 x4 (8 : Int)) fun x5 =>
 LETI (IntKind.i64.wrap (n2 + (8 : Int))) fun n3 =>
 NEED (0 ≤ (IntKind.u8.wrap x5) ∧ (IntKind.u8.wrap x5) < (ByteArray.mk #[0, 1, 2, 2, 3, 3, 3, 3, 4, 4, 4, 4, 4, 4, 4, 4, 5, 5, 5, 5, 5, 5, 5, 5, 5, 5, 5, 5, 5, 5, 5, 5, 6, 6, 6, 6, 6, 6, 6, 6, 6, 6, 6, 6, 6, 6, 6, 6, 6, 6, 6, 6, 6, 6, 6, 6, 6, 6, 6, 6, 6, 6, 6, 6, 7, 7, 7, 7, 7, 7, 7, 7, 7, 7, 7, 7, 7, 7, 7, 7, 7, 7, 7, 7, 7, 7, 7, 7, 7, 7, 7, 7, 7, 7, 7, 7, 7, 7, 7, 7, 7, 7, 7, 7, 7, 7, 7, 7, 7, 7, 7, 7, 7, 7, 7, 7, 7, 7, 7, 7, 7, 7, 7, 7, 7, 7, 7, 7, 8, 8, 8, 8, 8, 8, 8, 8, 8, 8, 8, 8, 8, 8, 8, 8, 8, 8, 8, 8, 8, 8, 8, 8, 8, 8, 8, 8, 8, 8, 8, 8, 8, 8, 8, 8, 8, 8, 8, 8, 8, 8, 8, 8, 8, 8, 8, 8, 8, 8, 8, 8, 8, 8, 8, 8, 8, 8, 8, 8, 8, 8, 8, 8, 8, 8, 8, 8, 8, 8, 8, 8, 8, 8, 8, 8, 8, 8, 8, 8, 8, 8, 8, 8, 8, 8, 8, 8, 8, 8, 8, 8, 8, 8, 8, 8, 8, 8, 8, 8, 8, 8, 8, 8, 8, 8, 8, 8, 8, 8, 8, 8, 8, 8, 8, 8, 8, 8, 8, 8, 8, 8, 8, 8, 8, 8, 8, 8]).size)
 (LETI (IntKind.i64.wrap (n3 + (IntKind.i64.wrap (sbyte (ByteArray.mk #[0, 1, 2, 2, 3, 3, 3, 3, 4, 4, 4, 4, 4, 4, 4, 4, 5, 5, 5, 5, 5, 5, 5, 5, 5, 5, 5, 5, 5, 5, 5, 5, 6, 6, 6, 6, 6, 6, 6, 6, 6, 6, 6, 6, 6, 6, 6, 6, 6, 6, 6, 6, 6, 6, 6, 6, 6, 6, 6, 6, 6, 6, 6, 6, 7, 7, 7, 7, 7, 7, 7, 7, 7, 7, 7, 7, 7, 7, 7, 7, 7, 7, 7, 7, 7, 7, 7, 7, 7, 7, 7, 7, 7, 7, 7, 7, 7, 7, 7, 7, 7, 7, 7, 7, 7, 7, 7, 7, 7, 7, 7, 7, 7, 7, 7, 7, 7, 7, 7, 7, 7, 7, 7, 7, 7, 7, 7, 7, 8, 8, 8, 8, 8, 8, 8, 8, 8, 8, 8, 8, 8, 8, 8, 8, 8, 8, 8, 8, 8, 8, 8, 8, 8, 8, 8, 8, 8, 8, 8, 8, 8, 8, 8, 8, 8, 8, 8, 8, 8, 8, 8, 8, 8, 8, 8, 8, 8, 8, 8, 8, 8, 8, 8, 8, 8, 8, 8, 8, 8, 8, 8, 8, 8, 8, 8, 8, 8, 8, 8, 8, 8, 8, 8, 8, 8, 8, 8, 8, 8, 8, 8, 8, 8, 8, 8, 8, 8, 8, 8, 8, 8, 8, 8, 8, 8, 8, 8, 8, 8, 8, 8, 8, 8, 8, 8, 8, 8, 8, 8, 8, 8, 8, 8, 8, 8, 8, 8, 8, 8, 8, 8, 8, 8, 8, 8, 8]) (IntKind.u8.wrap x5))))) fun n4 =>
 Q (.int .i64 n4) w2)))
 (NEED (0 ≤ (IntKind.u8.wrap x4) ∧ (IntKind.u8.wrap x4) < (ByteArray.mk #[0, 1, 2, 2, 3, 3, 3, 3, 4, 4, 4, 4, 4, 4, 4, 4, 5, 5, 5, 5, 5, 5, 5, 5, 5, 5, 5, 5, 5, 5, 5, 5, 6, 6, 6, 6, 6, 6, 6, 6, 6, 6, 6, 6, 6, 6, 6, 6, 6, 6, 6, 6, 6, 6, 6, 6, 6, 6, 6, 6, 6, 6, 6, 6, 7, 7, 7, 7, 7, 7, 7, 7, 7, 7, 7, 7, 7, 7, 7, 7, 7, 7, 7, 7, 7, 7, 7, 7, 7, 7, 7, 7, 7, 7, 7, 7, 7, 7, 7, 7, 7, 7, 7, 7, 7, 7, 7, 7, 7, 7, 7, 7, 7, 7, 7, 7, 7, 7, 7, 7, 7, 7, 7, 7, 7, 7, 7, 7, 8, 8, 8, 8, 8, 8, 8, 8, 8, 8, 8, 8, 8, 8, 8, 8, 8, 8, 8, 8, 8, 8, 8, 8, 8, 8, 8, 8, 8, 8, 8, 8, 8, 8, 8, 8, 8, 8, 8, 8, 8, 8, 8, 8, 8, 8, 8, 8, 8, 8, 8, 8, 8, 8, 8, 8, 8, 8, 8, 8, 8, 8, 8, 8, 8, 8, 8, 8, 8, 8, 8, 8, 8, 8, 8, 8, 8, 8, 8, 8, 8, 8, 8, 8, 8, 8, 8, 8, 8, 8, 8, 8, 8, 8, 8, 8, 8, 8, 8, 8, 8, 8, 8, 8, 8, 8, 8, 8, 8, 8, 8, 8, 8, 8, 8, 8, 8, 8, 8, 8, 8, 8, 8, 8, 8, 8, 8, 8]).size)
 (LETI (IntKind.i64.wrap (n2 + (IntKind.i64.wrap (sbyte (ByteArray.mk #[0, 1, 2, 2, 3, 3, 3, 3, 4, 4, 4, 4, 4, 4, 4, 4, 5, 5, 5, 5, 5, 5, 5, 5, 5, 5, 5, 5, 5, 5, 5, 5, 6, 6, 6, 6, 6, 6, 6, 6, 6, 6, 6, 6, 6, 6, 6, 6, 6, 6, 6, 6, 6, 6, 6, 6, 6, 6, 6, 6, 6, 6, 6, 6, 7, 7, 7, 7, 7, 7, 7, 7, 7, 7, 7, 7, 7, 7, 7, 7, 7, 7, 7, 7, 7, 7, 7, 7, 7, 7, 7, 7, 7, 7, 7, 7, 7, 7, 7, 7, 7, 7, 7, 7, 7, 7, 7, 7, 7, 7, 7, 7, 7, 7, 7, 7, 7, 7, 7, 7, 7, 7, 7, 7, 7, 7, 7, 7, 8, 8, 8, 8, 8, 8, 8, 8, 8, 8, 8, 8, 8, 8, 8, 8, 8, 8, 8, 8, 8, 8, 8, 8, 8, 8, 8, 8, 8, 8, 8, 8, 8, 8, 8, 8, 8, 8, 8, 8, 8, 8, 8, 8, 8, 8, 8, 8, 8, 8, 8, 8, 8, 8, 8, 8, 8, 8, 8, 8, 8, 8, 8, 8, 8, 8, 8, 8, 8, 8, 8, 8, 8, 8, 8, 8, 8, 8, 8, 8, 8, 8, 8, 8, 8, 8, 8, 8, 8, 8, 8, 8, 8, 8, 8, 8, 8, 8, 8, 8, 8, 8, 8, 8, 8, 8, 8, 8, 8, 8, 8, 8, 8, 8, 8, 8, 8, 8, 8, 8, 8, 8, 8, 8, 8, 8, 8, 8]) (IntKind.u8.wrap x4))))) fun n5 =>
 Q (.int .i64 n5) w2))))))
theorem eq171 : ∀ (x : Int) (w : World) (Q : Value → World → Prop), vcF PG TB Tryz.f171 (.s .nil (.cut [(0, 25), (2, 3)] .nil (.cut [(0, 25), (2, 3)] .nil .nil))) [(.int .u64 x)] w Q = N171 x w Q := by intros; kernel_rfl
theorem call171 {x : Int} {w : World} {Q : Value → World → Prop} (hN : N171 x w Q) : CALL PG 171 [(.int .u64 x)] w Q := calls_vc tabOk Tryz.func171 (by rw [eq171]; exact hN)

/-- cmp.isNaN[int] -/
def N211 (x : Int) (w : World) (Q : Value → World → Prop) : Prop :=
 LETB (x != x) fun x2 =>
 Q (.bool x2) w
theorem eq211 : ∀ (x : Int) (w : World) (Q : Value → World → Prop), vcF PG TB Tryz.f211 .nil [(.int .i64 x)] w Q = N211 x w Q := by intros; kernel_rfl
theorem call211 {x : Int} {w : World} {Q : Value → World → Prop} (hN : N211 x w Q) : CALL PG 211 [(.int .i64 x)] w Q := calls_vc tabOk Tryz.func211 (by rw [eq211]; exact hN)

end Go.Br

/- A short slice of numbers is sorted (insertion), and made to hold each once. -/
set_option linter.unusedVariables false
set_option linter.unusedSimpArgs false
set_option linter.unnecessarySimpa false
namespace Go.Br
open Go
attribute [local irreducible] Addr.add RD RDS RUN RUNU NILC LETB CALL CALLX CALLV

theorem tiInt : TI PG 3 1 8 (.int .i64 0) := tiOf (by kernel_rfl)
theorem huInts : PG.underlying 71 = some (.slice 3) := by kernel_rfl
theorem iv_flat1 (x : Int) : Flat (iv x) := by intro v hv; simp [iv] at hv; rw [hv]; rfl
theorem iv_flat (L : List Int) : Flat (L.flatMap iv) := by
  intro v hv
  simp only [List.mem_flatMap] at hv
  obtain ⟨x, _, hx⟩ := hv
  exact iv_flat1 x v hx
/-- The order of numbers. -/
def fI (x y : Int) : Int := x - y
theorem ordI : Ord Int fI := ⟨fun x => by unfold fI; omega, fun x y z h1 h2 => by unfold fI at *; omega, fun x y h => by unfold fI at *; omega⟩
/-- Each of a row of equal neighbours once. -/
def ddS (a : List Int) (x : Int) : List Int := if a.getLast? = some x then a else a ++ [x]
def dd (l : List Int) : List Int := l.foldl ddS []
theorem dd_snoc (l : List Int) (x : Int) : dd (l ++ [x]) = ddS (dd l) x := by unfold dd; rw [List.foldl_append]; rfl
theorem dd_last (l : List Int) : (dd l).getLast? = l.getLast? := by
  rcases List.eq_nil_or_concat l with rfl | ⟨q, x, rfl⟩
  · rfl
  · rw [List.concat_eq_append, dd_snoc]
    unfold ddS
    split
    · rename_i h; rw [h]; simp
    · simp
theorem dd_snoc' (l : List Int) (x : Int) : dd (l ++ [x]) = if l.getLast? = some x then dd l else dd l ++ [x] := by rw [dd_snoc, ddS, dd_last]
theorem dd_mem (n : Nat) : ∀ l : List Int, l.length = n → ∀ x, x ∈ dd l ↔ x ∈ l := by
  induction n with
  | zero => intro l hl x; rw [List.length_eq_zero_iff.1 hl]; rfl
  | succ n ih =>
    intro l hl x
    rcases List.eq_nil_or_concat l with rfl | ⟨q, y, rfl⟩
    · simp at hl
    rw [List.concat_eq_append] at *
    have hq := ih q (by simp at hl; exact hl) x
    rw [dd_snoc']
    split
    · rename_i h
      rw [hq, List.mem_append, List.mem_singleton]
      exact ⟨.inl, fun e => e.elim id fun e => by subst e; exact List.mem_of_getLast? h⟩
    · rw [List.mem_append, hq, List.mem_append]
theorem dd_strict (n : Nat) : ∀ l : List Int, l.length = n → Srt fI l → (dd l).Pairwise (· < ·) := by
  induction n with
  | zero => intro l hl _; rw [List.length_eq_zero_iff.1 hl]; exact List.Pairwise.nil
  | succ n ih =>
    intro l hl hs
    rcases List.eq_nil_or_concat l with rfl | ⟨q, y, rfl⟩
    · simp at hl
    rw [List.concat_eq_append] at *
    have hs' := Srt.app.1 hs
    have hq := ih q (by simp at hl; exact hl) hs'.1
    rw [dd_snoc']
    split
    · exact hq
    · rename_i hne
      refine List.pairwise_append.2 ⟨hq, List.pairwise_singleton _ _, fun a ha b hb => ?_⟩
      rw [List.mem_singleton] at hb
      subst hb
      rw [dd_mem _ q rfl] at ha
      have h1 := hs'.2.2 a ha b (by simp)
      unfold Le fI at h1
      rcases Int.lt_or_le a b with h2 | h2
      · exact h2
      exfalso
      rcases List.eq_nil_or_concat q with rfl | ⟨r, z, rfl⟩
      · simp at ha
      rw [List.concat_eq_append] at *
      have hz := Srt.last ordI hs'.1 ha
      have hz2 := hs'.2.2 z (by simp) b (by simp)
      unfold Le fI at hz hz2
      apply hne
      simp
      omega
theorem strict_ext : ∀ {A B : List Int}, A.Pairwise (· < ·) → B.Pairwise (· < ·) → (∀ x, x ∈ A ↔ x ∈ B) → A = B
  | [], [], _, _, _ => rfl
  | [], b :: B, _, _, h => absurd ((h b).2 (by simp)) (by simp)
  | a :: A, [], _, _, h => absurd ((h a).1 (by simp)) (by simp)
  | a :: A, b :: B, hA, hB, h => by
    have a1 := List.pairwise_cons.1 hA
    have b1 := List.pairwise_cons.1 hB
    have e : a = b := by
      have h1 := (h a).1 (by simp)
      have h2 := (h b).2 (by simp)
      simp only [List.mem_cons] at h1 h2
      rcases h1 with h1 | h1
      · exact h1
      rcases h2 with h2 | h2
      · exact h2.symm
      have := a1.1 b h2
      have := b1.1 a h1
      omega
    subst e
    rw [strict_ext a1.2 b1.2 fun x => ⟨fun hx => ?_, fun hx => ?_⟩]
    · have := (h x).1 (by simp [hx])
      have hl := a1.1 x hx
      simp only [List.mem_cons] at this
      rcases this with e | e
      · omega
      · exact e
    · have := (h x).2 (by simp [hx])
      have hl := b1.1 x hx
      simp only [List.mem_cons] at this
      rcases this with e | e
      · omega
      · exact e
theorem bitlen8 {x : Int} (h0 : 0 ≤ x) (h1 : x < 256) : IntKind.u8.wrap x = x := by rw [wrapU8]; omega
section
variable {c : Ctx} {w : World} {R : List SA} {A : Option Addr} {n k : Nat}
theorem less_ok {x y : Int} {Q : Value → World → Prop} (hk : Q (.bool (decide (x < y))) w) : CALL PG 167 [.int .i64 x, .int .i64 y] w Q := by
  refine call167 ?_
  unfold N167
  refine call211 ?_
  unfold N211
  refine letb rfl ?_
  (repeat (first | apply Exists.intro (α := Int) | apply Exists.intro (α := Bool) | apply Exists.intro (α := ByteArray) | (apply Exists.intro (α := Option Addr); apply Exists.intro (α := Nat); apply Exists.intro (α := Nat)) | apply Exists.intro (α := Option Addr) | apply Exists.intro (α := Value)))
  refine ⟨rfl, ?_⟩
  exact iff_ (by simp) (letb rfl hk)
theorem len64_ok {x : Int} (h0 : 0 ≤ x) (h1 : x < 256) {Q : Value → World → Prop} (hk : ∀ y, Q (.int .i64 y) w) : CALL PG 171 [.int .u64 x] w Q := by
  refine call171 ?_
  unfold N171
  refine ⟨fun a b w' => a = x ∧ b = 0 ∧ w' = w, ifdf (by omega) ⟨rfl, rfl, rfl⟩, ?_⟩
  rintro x _ w ⟨rfl, rfl, rfl⟩
  refine ⟨fun a b w' => a = x ∧ b = 0 ∧ w' = w, ifdf (by omega) ⟨rfl, rfl, rfl⟩, ?_⟩
  rintro x _ w ⟨rfl, rfl, rfl⟩
  refine ifdf (by omega) ?_
  rw [bitlen8 h0 h1]
  refine ⟨⟨h0, ?_⟩, leti rfl (hk _)⟩
  exact Int.lt_of_lt_of_le h1 (Int.le_of_eq (by kernel_rfl))
theorem len_ok' {x : Int} (h0 : 0 ≤ x) (h1 : x < 256) {Q : Value → World → Prop} (hk : ∀ y, Q (.int .i64 y) w) : CALL PG 113 [.int .u64 x] w Q := by
  refine call113 ?_
  unfold N113
  exact len64_ok h0 h1 fun y => ⟨_, rfl, leti rfl (hk _)⟩
theorem insI_ok {X : List Int} (hn : X.length = n) (hb : n ≤ 1000000) (h : St c w (own 3 1 A n k (X.flatMap iv) :: R)) {Q : Value → World → Prop}
    (hk : ∀ w' C, Srt fI C → C.Perm X → St c w' (own 3 1 A n k (C.flatMap iv) :: R) → Q (.tuple #[]) w') : CALL PG 161 [.slice A n k, .int .i64 0, .int .i64 (n : Int)] w Q := by
  refine call161 ?_
  unfold N161
  refine leti (y := 1) (by decide) ?_
  by_cases x0 : X = []
  · subst x0
    simp at hn
    subst hn
    refine ⟨fun m i w' => i = 1 ∧ St c w' (own 3 1 A 0 k (([] : List Int).flatMap iv) :: R), ⟨0, rfl, h⟩, ?_⟩
    rintro m _ w' ⟨rfl, h⟩
    exact ifdf (by decide) (hk w' [] List.Pairwise.nil (.refl _) h)
  have x1 := List.length_pos_iff.2 x0
  refine ⟨fun m i w' => ∃ (j : Nat) (U : List Int), j + m = X.length ∧ i = (j : Int) ∧ U.length = j ∧ Srt fI U ∧ U.Perm (X.take j) ∧ St c w' (own 3 1 A n k ((U ++ X.drop j).flatMap iv) :: R),
    ⟨X.length - 1, 1, X.take 1, by omega, rfl, by rw [List.length_take]; omega, by cases X with | nil => exact absurd rfl x0 | cons x r => exact List.pairwise_singleton _ _, .refl _, by rw [List.take_append_drop]; exact h⟩, ?_⟩
  clear h
  rintro m _ w' ⟨j, U, hj, rfl, hU, hs, hp, h⟩
  refine ifd (fun hlt => leti rfl ?_) fun hge => ?_
  rotate_left
  · have e : j = X.length := by omega
    rw [e, List.take_length] at hp
    rw [e, List.drop_eq_nil_of_le (Nat.le_refl _), List.append_nil] at h
    exact hk w' U hs hp h
  obtain ⟨z, hz⟩ := ex_get (L := X) (j := j) (by omega)
  have ed := drop_cons' hz
  have next : IntKind.i64.wrap ((j : Int) + 1) = ((j + 1 : Nat) : Int) := by rw [wrap_i64 (by omega) (by omega)]; omega
  refine ⟨fun m2 i w' => ∃ (U1 U2 : List Int), m2 = U1.length ∧ i = (U1.length : Int) ∧ U = U1 ++ U2 ∧ (∀ y, U2.head? = some y → Le fI z y) ∧ St c w' (own 3 1 A n k ((U1 ++ z :: U2 ++ X.drop (j + 1)).flatMap iv) :: R),
    ⟨_, U, [], rfl, by rw [hU], by simp, by simp, by rw [ed] at h; simpa [List.append_assoc] using h⟩, ?_⟩
  clear h
  rintro m2 _ w' ⟨U1, U2, rfl, rfl, hU12, hz2, h⟩
  have hjl : U1.length + U2.length = j := by rw [← hU, hU12, List.length_append]
  have lD : (X.drop (j + 1)).length = X.length - (j + 1) := by simp
  have done : ∀ w', St c w' (own 3 1 A n k ((U1 ++ z :: U2 ++ X.drop (j + 1)).flatMap iv) :: R) → (∀ x, U1.getLast? = some x → Le fI x z) → ∃ m5, m5 < m ∧ ∃ (j' : Nat) (U : List Int), j' + m5 = X.length ∧ ((j + 1 : Nat) : Int) = (j' : Int) ∧ U.length = j' ∧ Srt fI U ∧ U.Perm (X.take j') ∧ St c w' (own 3 1 A n k ((U ++ X.drop j').flatMap iv) :: R) := by
    intro w' h h1
    refine ⟨m - 1, by omega, j + 1, U1 ++ z :: U2, by omega, rfl, by simp <;> omega, Srt.ins ordI (by rw [← hU12]; exact hs) h1 hz2, ?_, h⟩
    rw [take_snoc' hz]
    refine List.Perm.trans ?_ (List.Perm.append_right [z] hp)
    rw [hU12]
    have : (U1 ++ z :: U2).Perm (z :: (U1 ++ U2)) := List.perm_middle
    exact this.trans (List.perm_append_singleton z (U1 ++ U2)).symm
  refine ifd (fun hlt2 => ?_) fun hge2 => ?_
  rotate_left
  · have : U1 = [] := List.eq_nil_of_length_eq_zero (by omega)
    subst this
    exact leti next (done _ h.drew (by simp))
  rcases List.eq_nil_or_concat U1 with rfl | ⟨q, u, rfl⟩
  · simp at hlt2
  rw [List.concat_eq_append] at *
  have h := h.drew
  have e0 : q ++ [u] ++ z :: U2 ++ X.drop (j + 1) = q ++ u :: z :: (U2 ++ X.drop (j + 1)) := by simp [List.append_assoc]
  have lq : (q ++ [u]).length = q.length + 1 := by simp
  rw [lq] at hjl hlt2 ⊢
  rw [e0] at h
  have e1 : IntKind.i64.wrap (((q.length + 1 : Nat) : Int) - 1) = (q.length : Int) := by rw [wrap_i64 (by omega) (by omega)]; omega
  rw [e1]
  have gz : (q ++ u :: z :: (U2 ++ X.drop (j + 1)))[q.length + 1]? = some z := by rw [List.getElem?_append_right (by omega)]; simp
  have gu : (q ++ u :: z :: (U2 ++ X.drop (j + 1)))[q.length]? = some u := by rw [List.getElem?_append_right (by omega)]; simp
  have lT : (q ++ u :: z :: (U2 ++ X.drop (j + 1))).length = n := by simp <;> omega
  refine h.ix (z := 0) (RdIn.own .head) gz (fun a ha => ?_) (by omega)
  subst ha
  refine h.rdWI (RdIn.own .head) gz ?_
  refine h.ix (z := 0) (RdIn.own .head) gu (fun a ha => ?_) (by omega)
  injection ha with ha
  subst ha
  refine h.rdWI (RdIn.own .head) gu ?_
  refine less_ok ?_
  (repeat (first | apply Exists.intro (α := Int) | apply Exists.intro (α := Bool) | apply Exists.intro (α := ByteArray) | (apply Exists.intro (α := Option Addr); apply Exists.intro (α := Nat); apply Exists.intro (α := Nat)) | apply Exists.intro (α := Option Addr) | apply Exists.intro (α := Value)))
  refine ⟨rfl, ?_⟩
  refine ifd (fun hcm => ?_) fun hcm => ?_
  rotate_left
  · rw [← e0] at h
    exact leti next (done _ h fun x hx => by simp at hx; subst hx; unfold Le fI; omega)
  have h := h.drew
  refine h.ix (z := 0) (RdIn.own .head) gu (fun a ha => ?_) (by omega)
  injection ha with ha
  subst ha
  refine h.rdWI (RdIn.own .head) gu ?_
  refine h.ix (z := 0) (RdIn.own .head) gz (fun a ha => ?_) (by omega)
  injection ha with ha
  subst ha
  refine h.rdWI (RdIn.own .head) gz ?_
  refine h.ix (z := 0) (RdIn.own .head) gz (fun a ha => ?_) (by omega)
  injection ha with ha
  subst ha
  refine h.stE .head (by omega) u (iv_flat1 u) fun w' h => ?_
  have gu' : ((q ++ u :: z :: (U2 ++ X.drop (j + 1))).set (q.length + 1) u)[q.length]? = some u := by rw [List.getElem?_set_ne (by omega)]; exact gu
  refine h.ix (z := 0) (RdIn.own .head) gu' (fun a ha => ?_) (by omega)
  injection ha with ha
  subst ha
  refine h.stE .head (by rw [List.length_set]; omega) z (iv_flat1 z) fun w' h => ?_
  have sw : ((q ++ u :: z :: (U2 ++ X.drop (j + 1))).set (q.length + 1) u).set q.length z = q ++ z :: (u :: U2) ++ X.drop (j + 1) := by
    rw [List.set_append_right _ _ (by omega), List.set_append_right _ _ (by omega)]
    simp
  rw [sw] at h
  exact leti rfl ⟨_, by omega, q, u :: U2, rfl, rfl, by rw [hU12]; simp, fun y hy => by simp at hy; subst hy; unfold Le fI; omega, h⟩
theorem sortI_ok {X : List Int} (hn : X.length = n) (hb : n ≤ 12) (h : St c w (own 3 1 A n k (X.flatMap iv) :: R)) {Q : Value → World → Prop}
    (hk : ∀ w' C, Srt fI C → C.Perm X → St c w' (own 3 1 A n k (C.flatMap iv) :: R) → Q (.tuple #[]) w') : CALL PG 77 [.slice A n k] w Q := by
  refine call77 ?_
  unfold N77
  refine leti rfl ?_
  rw [show IntKind.u64.wrap (n : Int) = n by rw [wrapU64]; omega]
  refine len_ok' (by omega) (by omega) fun y => ?_
  (repeat (first | apply Exists.intro (α := Int) | apply Exists.intro (α := Bool) | apply Exists.intro (α := ByteArray) | (apply Exists.intro (α := Option Addr); apply Exists.intro (α := Nat); apply Exists.intro (α := Nat)) | apply Exists.intro (α := Option Addr) | apply Exists.intro (α := Value)))
  refine ⟨rfl, ?_⟩
  refine call112 ?_
  unfold N112
  refine ⟨fun m a b l x y w' => a = 0 ∧ b = (n : Int) ∧ w' = w, ⟨0, rfl, rfl, rfl⟩, ?_⟩
  rintro m _ _ l x y w' ⟨rfl, rfl, rfl⟩
  refine leti (y := (n : Int)) (by rw [wrap_i64 (by omega) (by omega)]; omega) (ifdt (by omega) ?_)
  refine insI_ok hn (by omega) h fun w' C hC pC h => ?_
  (repeat (first | apply Exists.intro (α := Int) | apply Exists.intro (α := Bool) | apply Exists.intro (α := ByteArray) | (apply Exists.intro (α := Option Addr); apply Exists.intro (α := Nat); apply Exists.intro (α := Nat)) | apply Exists.intro (α := Option Addr) | apply Exists.intro (α := Value)))
  refine ⟨rfl, ?_⟩
  (repeat (first | apply Exists.intro (α := Int) | apply Exists.intro (α := Bool) | apply Exists.intro (α := ByteArray) | (apply Exists.intro (α := Option Addr); apply Exists.intro (α := Nat); apply Exists.intro (α := Nat)) | apply Exists.intro (α := Option Addr) | apply Exists.intro (α := Value)))
  refine ⟨rfl, ?_⟩
  exact hk _ C hC pC h
end
end Go.Br
