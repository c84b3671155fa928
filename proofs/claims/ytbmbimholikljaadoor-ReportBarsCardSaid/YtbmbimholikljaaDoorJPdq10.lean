/- SortInt, Pdq, Pdq2, Pdq3, Pdq4, Pdq5, Pdq6, Pdq7, Pdq8, Pdq9, Pdq10 -/
import Derived.Test.YtbmbimholikljaaDoorBrSeat
import Derived.Test.YtbmbimholikljaaDoorSortPure
import Derived.Test.YtbmbimholikljaaDoorBrOwn
/- What the code of some functions says, as the core reads it; each reading is checked by the kernel. -/
set_option linter.unusedVariables false
set_option maxRecDepth 100000
namespace Go.Br
open Go Go.Proofs

/-- slices.Sort[[]int,int] -/
def N28 (x : Option Addr) (xN xC : Nat) (w : World) (Q : Value → World → Prop) : Prop :=
 LETI (xN : Int) fun n =>
 CALL PG 36 [(.int .u64 (IntKind.u64.wrap n))] w fun v w1 =>
 ∃ x9 : Int, v = (.int .i64 x9) ∧
 (CALL PG 35 [(.slice x xN xC), (.int .i64 (0 : Int)), (.int .i64 n), (.int .i64 x9)] w1 fun v1 w2 =>
 v1 = (.tuple #[]) ∧
 (Q (.tuple #[]) w2))
theorem eq28 : ∀ (x : Option Addr) (xN xC : Nat) (w : World) (Q : Value → World → Prop), vcF PG TB Tryd.f28 .nil [(.slice x xN xC)] w Q = N28 x xN xC w Q := by intros; kernel_rfl
theorem call28 {x : Option Addr} {xN xC : Nat} {w : World} {Q : Value → World → Prop} (hN : N28 x xN xC w Q) : CALL PG 28 [(.slice x xN xC)] w Q := calls_vc tabOk Tryd.func28 (by rw [eq28]; exact hN)

/-- slices.pdqsortOrdered[int] -/
def N35 (data : Option Addr) (dataN dataC : Nat) (a : Int) (b : Int) (limit : Int) (w : World) (Q : Value → World → Prop) : Prop :=
 ∃ I : Nat → Int → Int → Int → Bool → Bool → World → Prop,
 (∃ m, I m a b limit true true w) ∧
 (∀ m1 (a1 : Int) (b1 : Int) (limit1 : Int) (wasBalanced : Bool) (wasPartitioned : Bool) (w1 : World), I m1 a1 b1 limit1 wasBalanced wasPartitioned w1 → (LETI (IntKind.i64.wrap (b1 - a1)) fun length =>
 IFB (decide (length ≤ (12 : Int)))
 (CALL PG 43 [(.slice data dataN dataC), (.int .i64 a1), (.int .i64 b1)] w1 fun v w2 =>
 v = (.tuple #[]) ∧
 (Q (.tuple #[]) w2))
 (IFB (limit1 == (0 : Int))
 (CALL PG 44 [(.slice data dataN dataC), (.int .i64 a1), (.int .i64 b1)] w1 fun v1 w3 =>
 v1 = (.tuple #[]) ∧
 (Q (.tuple #[]) w3))
 (∃ R : Int → World → Prop,
 (IFB (!wasBalanced)
 (CALL PG 45 [(.slice data dataN dataC), (.int .i64 a1), (.int .i64 b1)] w1 fun v2 w4 =>
 v2 = (.tuple #[]) ∧
 (LETI (IntKind.i64.wrap (limit1 - (1 : Int))) fun limit2 =>
 R limit2 w4))
 (R limit1 w1)) ∧
 (∀ (limit3 : Int) (w5 : World), R limit3 w5 → (CALL PG 46 [(.slice data dataN dataC), (.int .i64 a1), (.int .i64 b1)] w5 fun v3 w6 =>
 ∃ x46 : Int, ∃ x46v1 : Int, v3 = (.tuple #[(.int .i64 x46), (.int .i64 x46v1)]) ∧
 (LETI x46 fun pivot =>
 LETI x46v1 fun hint =>
 ∃ R1 : Int → Int → World → Prop,
 (IFB (hint == (2 : Int))
 (CALL PG 47 [(.slice data dataN dataC), (.int .i64 a1), (.int .i64 b1)] w6 fun v4 w7 =>
 v4 = (.tuple #[]) ∧
 (LETI (IntKind.i64.wrap ((IntKind.i64.wrap (b1 - (1 : Int))) - (IntKind.i64.wrap (pivot - a1)))) fun pivot1 =>
 R1 pivot1 (1 : Int) w7))
 (R1 pivot hint w6)) ∧
 (∀ (pivot2 : Int) (hint1 : Int) (w8 : World), R1 pivot2 hint1 w8 → (∃ R2 : World → Prop,
 (IFB wasBalanced
 (IFB wasPartitioned
 (IFB (hint1 == (1 : Int))
 (CALL PG 48 [(.slice data dataN dataC), (.int .i64 a1), (.int .i64 b1)] w8 fun v5 w9 =>
 ∃ x72 : Bool, v5 = (.bool x72) ∧
 (IFB x72
 (Q (.tuple #[]) w9)
 (R2 w9)))
 (R2 w8))
 (R2 w8))
 (R2 w8)) ∧
 (∀  (w10 : World), R2 w10 → (∃ R3 : Int → World → Prop,
 (IFB (decide (a1 > (0 : Int)))
 (IDX data dataN (IntKind.i64.wrap (a1 - (1 : Int))) fun a79 =>
 RDI PG (loadVar 3 (Addr.add a79 (Int.toNat (IntKind.i64.wrap (a1 - (1 : Int))) * 1))) .i64 (w10.drew) fun x80 =>
 IDX data dataN pivot2 fun a83 =>
 RDI PG (loadVar 3 (Addr.add a83 (Int.toNat pivot2 * 1))) .i64 (w10.drew) fun x84 =>
 CALL PG 49 [(.int .i64 x80), (.int .i64 x84)] (w10.drew) fun v6 w11 =>
 ∃ x85 : Bool, v6 = (.bool x85) ∧
 (IFB (!x85)
 (CALL PG 50 [(.slice data dataN dataC), (.int .i64 a1), (.int .i64 b1), (.int .i64 pivot2)] w11 fun v7 w12 =>
 ∃ x92 : Int, v7 = (.int .i64 x92) ∧
 (LETI x92 fun mid =>
 LETI mid fun a2 =>
 ∃ m2, m2 < m1 ∧ I m2 a2 b1 limit3 wasBalanced wasPartitioned w12))
 (R3 a1 w11)))
 (R3 a1 (w10.drew))) ∧
 (∀ (a3 : Int) (w13 : World), R3 a3 w13 → (CALL PG 51 [(.slice data dataN dataC), (.int .i64 a3), (.int .i64 b1), (.int .i64 pivot2)] w13 fun v8 w14 =>
 ∃ x99 : Int, ∃ x99v1 : Bool, v8 = (.tuple #[(.int .i64 x99), (.bool x99v1)]) ∧
 (LETI x99 fun mid1 =>
 LETB x99v1 fun alreadyPartitioned =>
 LETB alreadyPartitioned fun wasPartitioned1 =>
 LETI (IntKind.i64.wrap (mid1 - a3)) fun leftLen =>
 LETI (IntKind.i64.wrap (b1 - mid1)) fun rightLen =>
 NEED ((8 : Int) ≠ 0)
 (LETI (IntKind.i64.wrap (Int.tdiv length (8 : Int))) fun balanceThreshold =>
 IFB (decide (leftLen < rightLen))
 (LETB (decide (leftLen ≥ balanceThreshold)) fun wasBalanced1 =>
 CALL PG 35 [(.slice data dataN dataC), (.int .i64 a3), (.int .i64 mid1), (.int .i64 limit3)] w14 fun v9 w15 =>
 v9 = (.tuple #[]) ∧
 (LETI (IntKind.i64.wrap (mid1 + (1 : Int))) fun a4 =>
 ∃ m3, m3 < m1 ∧ I m3 a4 b1 limit3 wasBalanced1 wasPartitioned1 w15))
 (LETB (decide (rightLen ≥ balanceThreshold)) fun wasBalanced2 =>
 CALL PG 35 [(.slice data dataN dataC), (.int .i64 (IntKind.i64.wrap (mid1 + (1 : Int)))), (.int .i64 b1), (.int .i64 limit3)] w14 fun v10 w16 =>
 v10 = (.tuple #[]) ∧
 (LETI mid1 fun b2 =>
 ∃ m4, m4 < m1 ∧ I m4 a3 b2 limit3 wasBalanced2 wasPartitioned1 w16)))))))))))))))))
theorem eq35 : ∀ (data : Option Addr) (dataN dataC : Nat) (a : Int) (b : Int) (limit : Int) (w : World) (Q : Value → World → Prop), vcF PG TB Tryd.f35 (.s .nil (.s .nil (.u (.loop [(1, 3), (2, 3), (3, 3), (8, 4), (9, 4)] (.u (.s .nil (.s .nil (.s .nil (.cut [(3, 3)] .nil (.s .nil (.cut [(11, 3), (12, 83)] .nil (.cut [] .nil (.cut [(1, 3)] .nil .nil))))))))))))) [(.slice data dataN dataC), (.int .i64 a), (.int .i64 b), (.int .i64 limit)] w Q = N35 data dataN dataC a b limit w Q := by intros; kernel_rfl
theorem call35 {data : Option Addr} {dataN dataC : Nat} {a : Int} {b : Int} {limit : Int} {w : World} {Q : Value → World → Prop} (hN : N35 data dataN dataC a b limit w Q) : CALL PG 35 [(.slice data dataN dataC), (.int .i64 a), (.int .i64 b), (.int .i64 limit)] w Q := calls_vc tabOk Tryd.func35 (by rw [eq35]; exact hN)

/-- math/bits.Len -/
def N36 (x : Int) (w : World) (Q : Value → World → Prop) : Prop :=
 CALL PG 53 [(.int .u64 x)] w fun v w1 =>
 ∃ x7 : Int, v = (.int .i64 x7) ∧
 (LETI x7 fun x2 =>
 Q (.int .i64 x2) w1)
theorem eq36 : ∀ (x : Int) (w : World) (Q : Value → World → Prop), vcF PG TB Tryd.f36 .nil [(.int .u64 x)] w Q = N36 x w Q := by intros; kernel_rfl
theorem call36 {x : Int} {w : World} {Q : Value → World → Prop} (hN : N36 x w Q) : CALL PG 36 [(.int .u64 x)] w Q := calls_vc tabOk Tryd.func36 (by rw [eq36]; exact hN)

/-- slices.insertionSortOrdered[int] -/
def N43 (data : Option Addr) (dataN dataC : Nat) (a : Int) (b : Int) (w : World) (Q : Value → World → Prop) : Prop :=
 LETI (IntKind.i64.wrap (a + (1 : Int))) fun i =>
 ∃ I : Nat → Int → World → Prop,
 (∃ m, I m i w) ∧
 (∀ m1 (i1 : Int) (w1 : World), I m1 i1 w1 → (IFB (decide (i1 < b))
 (LETI i1 fun j =>
 ∃ I1 : Nat → Int → World → Prop,
 (∃ m2, I1 m2 j w1) ∧
 (∀ m3 (j1 : Int) (w2 : World), I1 m3 j1 w2 → (IFB (decide (j1 > a))
 (IDX data dataN j1 fun a22 =>
 RDI PG (loadVar 3 (Addr.add a22 (Int.toNat j1 * 1))) .i64 (w2.drew) fun x23 =>
 IDX data dataN (IntKind.i64.wrap (j1 - (1 : Int))) fun a27 =>
 RDI PG (loadVar 3 (Addr.add a27 (Int.toNat (IntKind.i64.wrap (j1 - (1 : Int))) * 1))) .i64 (w2.drew) fun x28 =>
 CALL PG 49 [(.int .i64 x23), (.int .i64 x28)] (w2.drew) fun v w3 =>
 ∃ x29 : Bool, v = (.bool x29) ∧
 (IFB x29
 (IDX data dataN (IntKind.i64.wrap (j1 - (1 : Int))) fun a41 =>
 RDI PG (loadVar 3 (Addr.add a41 (Int.toNat (IntKind.i64.wrap (j1 - (1 : Int))) * 1))) .i64 (w3.drew) fun x42 =>
 IDX data dataN j1 fun a45 =>
 RDI PG (loadVar 3 (Addr.add a45 (Int.toNat j1 * 1))) .i64 (w3.drew) fun x46 =>
 IDX data dataN j1 fun a47 =>
 RUNU PG (storeVar 3 (Addr.add a47 (Int.toNat j1 * 1)) (.int .i64 x42)) (w3.drew) fun w4 =>
 IDX data dataN (IntKind.i64.wrap (j1 - (1 : Int))) fun a48 =>
 RUNU PG (storeVar 3 (Addr.add a48 (Int.toNat (IntKind.i64.wrap (j1 - (1 : Int))) * 1)) (.int .i64 x46)) w4 fun w5 =>
 LETI (IntKind.i64.wrap (j1 - (1 : Int))) fun j2 =>
 ∃ m4, m4 < m3 ∧ I1 m4 j2 w5)
 (LETI (IntKind.i64.wrap (i1 + (1 : Int))) fun i2 =>
 ∃ m5, m5 < m1 ∧ I m5 i2 w3)))
 (LETI (IntKind.i64.wrap (i1 + (1 : Int))) fun i3 =>
 ∃ m6, m6 < m1 ∧ I m6 i3 (w2.drew)))))
 (Q (.tuple #[]) w1)))
theorem eq43 : ∀ (data : Option Addr) (dataN dataC : Nat) (a : Int) (b : Int) (w : World) (Q : Value → World → Prop), vcF PG TB Tryd.f43 (.s .nil (.u (.loop [(6, 3)] (.s .nil (.s (.u (.s .nil (.u (.loop [(7, 3)] .nil)))) .nil))))) [(.slice data dataN dataC), (.int .i64 a), (.int .i64 b)] w Q = N43 data dataN dataC a b w Q := by intros; kernel_rfl
theorem call43 {data : Option Addr} {dataN dataC : Nat} {a : Int} {b : Int} {w : World} {Q : Value → World → Prop} (hN : N43 data dataN dataC a b w Q) : CALL PG 43 [(.slice data dataN dataC), (.int .i64 a), (.int .i64 b)] w Q := calls_vc tabOk Tryd.func43 (by rw [eq43]; exact hN)

/-- cmp.Less[int] -/
def N49 (x : Int) (y : Int) (w : World) (Q : Value → World → Prop) : Prop :=
 CALL PG 62 [(.int .i64 x)] w fun v w1 =>
 ∃ x6 : Bool, v = (.bool x6) ∧
 (IFB x6
 (CALL PG 62 [(.int .i64 y)] w1 fun v1 w2 =>
 ∃ x9 : Bool, v1 = (.bool x9) ∧
 (IFB (!x9)
 (LETB true fun x4 =>
 Q (.bool x4) w2)
 (LETB (decide (x < y)) fun x4v1 =>
 Q (.bool x4v1) w2)))
 (LETB (decide (x < y)) fun x4v2 =>
 Q (.bool x4v2) w1))
theorem eq49 : ∀ (x : Int) (y : Int) (w : World) (Q : Value → World → Prop), vcF PG TB Tryd.f49 .nil [(.int .i64 x), (.int .i64 y)] w Q = N49 x y w Q := by intros; kernel_rfl
theorem call49 {x : Int} {y : Int} {w : World} {Q : Value → World → Prop} (hN : N49 x y w Q) : CALL PG 49 [(.int .i64 x), (.int .i64 y)] w Q := calls_vc tabOk Tryd.func49 (by rw [eq49]; exact hN)

/-- math/bits.Len64 -/
def N53 (x : Int) (w : World) (Q : Value → World → Prop) : Prop :=
 ∃ R : Int → Int → World → Prop,
 (IFB (decide (x ≥ (4294967296 : Int)))
 (NEED (0 ≤ (32 : Int))
 (LETI (shrN .u64 x (32 : Int)) fun x1 =>
 R x1 (32 : Int) w))
 (R x (0 : Int) w)) ∧
 (∀ (x2 : Int) (n : Int) (w1 : World), R x2 n w1 → (∃ R1 : Int → Int → World → Prop,
 (IFB (decide (x2 ≥ (65536 : Int)))
 (NEED (0 ≤ (16 : Int))
 (LETI (shrN .u64 x2 (16 : Int)) fun x3 =>
 LETI (IntKind.i64.wrap (n + (16 : Int))) fun n1 =>
 R1 x3 n1 w1))
 (R1 x2 n w1)) ∧
 (∀ (x4 : Int) (n2 : Int) (w2 : World), R1 x4 n2 w2 → (IFB (decide (x4 ≥ (256 : Int)))
 (NEED (0 ≤ (8 : Int))
 (LETI (shrN .u64 x4 (8 : Int)) fun x5 =>
 LETI (IntKind.i64.wrap (n2 + (8 : Int))) fun n3 =>
 NEED (0 ≤ (IntKind.u8.wrap x5) ∧ (IntKind.u8.wrap x5) < (ByteArray.mk #[0, 1, 2, 2, 3, 3, 3, 3, 4, 4, 4, 4, 4, 4, 4, 4, 5, 5, 5, 5, 5, 5, 5, 5, 5, 5, 5, 5, 5, 5, 5, 5, 6, 6, 6, 6, 6, 6, 6, 6, 6, 6, 6, 6, 6, 6, 6, 6, 6, 6, 6, 6, 6, 6, 6, 6, 6, 6, 6, 6, 6, 6, 6, 6, 7, 7, 7, 7, 7, 7, 7, 7, 7, 7, 7, 7, 7, 7, 7, 7, 7, 7, 7, 7, 7, 7, 7, 7, 7, 7, 7, 7, 7, 7, 7, 7, 7, 7, 7, 7, 7, 7, 7, 7, 7, 7, 7, 7, 7, 7, 7, 7, 7, 7, 7, 7, 7, 7, 7, 7, 7, 7, 7, 7, 7, 7, 7, 7, 8, 8, 8, 8, 8, 8, 8, 8, 8, 8, 8, 8, 8, 8, 8, 8, 8, 8, 8, 8, 8, 8, 8, 8, 8, 8, 8, 8, 8, 8, 8, 8, 8, 8, 8, 8, 8, 8, 8, 8, 8, 8, 8, 8, 8, 8, 8, 8, 8, 8, 8, 8, 8, 8, 8, 8, 8, 8, 8, 8, 8, 8, 8, 8, 8, 8, 8, 8, 8, 8, 8, 8, 8, 8, 8, 8, 8, 8, 8, 8, 8, 8, 8, 8, 8, 8, 8, 8, 8, 8, 8, 8, 8, 8, 8, 8, 8, 8, 8, 8, 8, 8, 8, 8, 8, 8, 8, 8, 8, 8, 8, 8, 8, 8, 8, 8, 8, 8, 8, 8, 8, 8, 8, 8, 8, 8, 8, 8]).size)
 (LETI (IntKind.i64.wrap (n3 + (IntKind.i64.wrap (sbyte (ByteArray.mk #[0, 1, 2, 2, 3, 3, 3, 3, 4, 4, 4, 4, 4, 4, 4, 4, 5, 5, 5, 5, 5, 5, 5, 5, 5, 5, 5, 5, 5, 5, 5, 5, 6, 6, 6, 6, 6, 6, 6, 6, 6, 6, 6, 6, 6, 6, 6, 6, 6, 6, 6, 6, 6, 6, 6, 6, 6, 6, 6, 6, 6, 6, 6, 6, 7, 7, 7, 7, 7, 7, 7, 7, 7, 7, 7, 7, 7, 7, 7, 7, 7, 7, 7, 7, 7, 7, 7, 7, 7, 7, 7, 7, 7, 7, 7, 7, 7, 7, 7, 7, 7, 7, 7, 7, 7, 7, 7, 7, 7, 7, 7, 7, 7, 7, 7, 7, 7, 7, 7, 7, 7, 7, 7, 7, 7, 7, 7, 7, 8, 8, 8, 8, 8, 8, 8, 8, 8, 8, 8, 8, 8, 8, 8, 8, 8, 8, 8, 8, 8, 8, 8, 8, 8, 8, 8, 8, 8, 8, 8, 8, 8, 8, 8, 8, 8, 8, 8, 8, 8, 8, 8, 8, 8, 8, 8, 8, 8, 8, 8, 8, 8, 8, 8, 8, 8, 8, 8, 8, 8, 8, 8, 8, 8, 8, 8, 8, 8, 8, 8, 8, 8, 8, 8, 8, 8, 8, 8, 8, 8, 8, 8, 8, 8, 8, 8, 8, 8, 8, 8, 8, 8, 8, 8, 8, 8, 8, 8, 8, 8, 8, 8, 8, 8, 8, 8, 8, 8, 8, 8, 8, 8, 8, 8, 8, 8, 8, 8, 8, 8, 8, 8, 8, 8, 8, 8, 8]) (IntKind.u8.wrap x5))))) fun n4 =>
 Q (.int .i64 n4) w2)))
 (NEED (0 ≤ (IntKind.u8.wrap x4) ∧ (IntKind.u8.wrap x4) < (ByteArray.mk #[0, 1, 2, 2, 3, 3, 3, 3, 4, 4, 4, 4, 4, 4, 4, 4, 5, 5, 5, 5, 5, 5, 5, 5, 5, 5, 5, 5, 5, 5, 5, 5, 6, 6, 6, 6, 6, 6, 6, 6, 6, 6, 6, 6, 6, 6, 6, 6, 6, 6, 6, 6, 6, 6, 6, 6, 6, 6, 6, 6, 6, 6, 6, 6, 7, 7, 7, 7, 7, 7, 7, 7, 7, 7, 7, 7, 7, 7, 7, 7, 7, 7, 7, 7, 7, 7, 7, 7, 7, 7, 7, 7, 7, 7, 7, 7, 7, 7, 7, 7, 7, 7, 7, 7, 7, 7, 7, 7, 7, 7, 7, 7, 7, 7, 7, 7, 7, 7, 7, 7, 7, 7, 7, 7, 7, 7, 7, 7, 8, 8, 8, 8, 8, 8, 8, 8, 8, 8, 8, 8, 8, 8, 8, 8, 8, 8, 8, 8, 8, 8, 8, 8, 8, 8, 8, 8, 8, 8, 8, 8, 8, 8, 8, 8, 8, 8, 8, 8, 8, 8, 8, 8, 8, 8, 8, 8, 8, 8, 8, 8, 8, 8, 8, 8, 8, 8, 8, 8, 8, 8, 8, 8, 8, 8, 8, 8, 8, 8, 8, 8, 8, 8, 8, 8, 8, 8, 8, 8, 8, 8, 8, 8, 8, 8, 8, 8, 8, 8, 8, 8, 8, 8, 8, 8, 8, 8, 8, 8, 8, 8, 8, 8, 8, 8, 8, 8, 8, 8, 8, 8, 8, 8, 8, 8, 8, 8, 8, 8, 8, 8, 8, 8, 8, 8, 8, 8]).size)
 (LETI (IntKind.i64.wrap (n2 + (IntKind.i64.wrap (sbyte (ByteArray.mk #[0, 1, 2, 2, 3, 3, 3, 3, 4, 4, 4, 4, 4, 4, 4, 4, 5, 5, 5, 5, 5, 5, 5, 5, 5, 5, 5, 5, 5, 5, 5, 5, 6, 6, 6, 6, 6, 6, 6, 6, 6, 6, 6, 6, 6, 6, 6, 6, 6, 6, 6, 6, 6, 6, 6, 6, 6, 6, 6, 6, 6, 6, 6, 6, 7, 7, 7, 7, 7, 7, 7, 7, 7, 7, 7, 7, 7, 7, 7, 7, 7, 7, 7, 7, 7, 7, 7, 7, 7, 7, 7, 7, 7, 7, 7, 7, 7, 7, 7, 7, 7, 7, 7, 7, 7, 7, 7, 7, 7, 7, 7, 7, 7, 7, 7, 7, 7, 7, 7, 7, 7, 7, 7, 7, 7, 7, 7, 7, 8, 8, 8, 8, 8, 8, 8, 8, 8, 8, 8, 8, 8, 8, 8, 8, 8, 8, 8, 8, 8, 8, 8, 8, 8, 8, 8, 8, 8, 8, 8, 8, 8, 8, 8, 8, 8, 8, 8, 8, 8, 8, 8, 8, 8, 8, 8, 8, 8, 8, 8, 8, 8, 8, 8, 8, 8, 8, 8, 8, 8, 8, 8, 8, 8, 8, 8, 8, 8, 8, 8, 8, 8, 8, 8, 8, 8, 8, 8, 8, 8, 8, 8, 8, 8, 8, 8, 8, 8, 8, 8, 8, 8, 8, 8, 8, 8, 8, 8, 8, 8, 8, 8, 8, 8, 8, 8, 8, 8, 8, 8, 8, 8, 8, 8, 8, 8, 8, 8, 8, 8, 8, 8, 8, 8, 8, 8, 8]) (IntKind.u8.wrap x4))))) fun n5 =>
 Q (.int .i64 n5) w2))))))
theorem eq53 : ∀ (x : Int) (w : World) (Q : Value → World → Prop), vcF PG TB Tryd.f53 (.s .nil (.cut [(0, 66), (2, 3)] .nil (.cut [(0, 66), (2, 3)] .nil .nil))) [(.int .u64 x)] w Q = N53 x w Q := by intros; kernel_rfl
theorem call53 {x : Int} {w : World} {Q : Value → World → Prop} (hN : N53 x w Q) : CALL PG 53 [(.int .u64 x)] w Q := calls_vc tabOk Tryd.func53 (by rw [eq53]; exact hN)

/-- cmp.isNaN[int] -/
def N62 (x : Int) (w : World) (Q : Value → World → Prop) : Prop :=
 LETB (x != x) fun x2 =>
 Q (.bool x2) w
theorem eq62 : ∀ (x : Int) (w : World) (Q : Value → World → Prop), vcF PG TB Tryd.f62 .nil [(.int .i64 x)] w Q = N62 x w Q := by intros; kernel_rfl
theorem call62 {x : Int} {w : World} {Q : Value → World → Prop} (hN : N62 x w Q) : CALL PG 62 [(.int .i64 x)] w Q := calls_vc tabOk Tryd.func62 (by rw [eq62]; exact hN)

end Go.Br

/- A short slice of numbers is sorted (insertion), and made to hold each once. -/
set_option linter.unusedVariables false
set_option linter.unusedSimpArgs false
set_option linter.unnecessarySimpa false
namespace Go.Br
open Go
attribute [local irreducible] Addr.add RD RDS RUN RUNU NILC LETB CALL CALLX CALLV

theorem tiInt : TI PG 3 1 8 (.int .i64 0) := tiOf (by kernel_rfl)
theorem huInts : PG.underlying 22 = some (.slice 3) := by kernel_rfl
theorem iv_flat1 (x : Int) : Flat (iv x) := by intro v hv; simp [iv] at hv; rw [hv]; rfl
theorem iv_flat (L : List Int) : Flat (L.flatMap iv) := by
  intro v hv
  simp only [List.mem_flatMap] at hv
  obtain ⟨x, _, hx⟩ := hv
  exact iv_flat1 x v hx
/-- The order of numbers. -/
def fI (x y : Int) : Int := x - y
theorem ordI : Ord Int fI := ⟨fun x => by unfold fI; omega, fun x y z h1 h2 => by unfold fI at *; omega, fun x y h => by unfold fI at *; omega⟩
/-- Each of a row of equal neighbours once. -/
def ddS (a : List Int) (x : Int) : List Int := if a.getLast? = some x then a else a ++ [x]
def dd (l : List Int) : List Int := l.foldl ddS []
theorem dd_snoc (l : List Int) (x : Int) : dd (l ++ [x]) = ddS (dd l) x := by unfold dd; rw [List.foldl_append]; rfl
theorem dd_last (l : List Int) : (dd l).getLast? = l.getLast? := by
  rcases List.eq_nil_or_concat l with rfl | ⟨q, x, rfl⟩
  · rfl
  · rw [List.concat_eq_append, dd_snoc]
    unfold ddS
    split
    · rename_i h; rw [h]; simp
    · simp
theorem dd_snoc' (l : List Int) (x : Int) : dd (l ++ [x]) = if l.getLast? = some x then dd l else dd l ++ [x] := by rw [dd_snoc, ddS, dd_last]
theorem dd_mem (n : Nat) : ∀ l : List Int, l.length = n → ∀ x, x ∈ dd l ↔ x ∈ l := by
  induction n with
  | zero => intro l hl x; rw [List.length_eq_zero_iff.1 hl]; rfl
  | succ n ih =>
    intro l hl x
    rcases List.eq_nil_or_concat l with rfl | ⟨q, y, rfl⟩
    · simp at hl
    rw [List.concat_eq_append] at *
    have hq := ih q (by simp at hl; exact hl) x
    rw [dd_snoc']
    split
    · rename_i h
      rw [hq, List.mem_append, List.mem_singleton]
      exact ⟨.inl, fun e => e.elim id fun e => by subst e; exact List.mem_of_getLast? h⟩
    · rw [List.mem_append, hq, List.mem_append]
theorem dd_strict (n : Nat) : ∀ l : List Int, l.length = n → Srt fI l → (dd l).Pairwise (· < ·) := by
  induction n with
  | zero => intro l hl _; rw [List.length_eq_zero_iff.1 hl]; exact List.Pairwise.nil
  | succ n ih =>
    intro l hl hs
    rcases List.eq_nil_or_concat l with rfl | ⟨q, y, rfl⟩
    · simp at hl
    rw [List.concat_eq_append] at *
    have hs' := Srt.app.1 hs
    have hq := ih q (by simp at hl; exact hl) hs'.1
    rw [dd_snoc']
    split
    · exact hq
    · rename_i hne
      refine List.pairwise_append.2 ⟨hq, List.pairwise_singleton _ _, fun a ha b hb => ?_⟩
      rw [List.mem_singleton] at hb
      subst hb
      rw [dd_mem _ q rfl] at ha
      have h1 := hs'.2.2 a ha b (by simp)
      unfold Le fI at h1
      rcases Int.lt_or_le a b with h2 | h2
      · exact h2
      exfalso
      rcases List.eq_nil_or_concat q with rfl | ⟨r, z, rfl⟩
      · simp at ha
      rw [List.concat_eq_append] at *
      have hz := Srt.last ordI hs'.1 ha
      have hz2 := hs'.2.2 z (by simp) b (by simp)
      unfold Le fI at hz hz2
      apply hne
      simp
      omega
theorem strict_ext : ∀ {A B : List Int}, A.Pairwise (· < ·) → B.Pairwise (· < ·) → (∀ x, x ∈ A ↔ x ∈ B) → A = B
  | [], [], _, _, _ => rfl
  | [], b :: B, _, _, h => absurd ((h b).2 (by simp)) (by simp)
  | a :: A, [], _, _, h => absurd ((h a).1 (by simp)) (by simp)
  | a :: A, b :: B, hA, hB, h => by
    have a1 := List.pairwise_cons.1 hA
    have b1 := List.pairwise_cons.1 hB
    have e : a = b := by
      have h1 := (h a).1 (by simp)
      have h2 := (h b).2 (by simp)
      simp only [List.mem_cons] at h1 h2
      rcases h1 with h1 | h1
      · exact h1
      rcases h2 with h2 | h2
      · exact h2.symm
      have := a1.1 b h2
      have := b1.1 a h1
      omega
    subst e
    rw [strict_ext a1.2 b1.2 fun x => ⟨fun hx => ?_, fun hx => ?_⟩]
    · have := (h x).1 (by simp [hx])
      have hl := a1.1 x hx
      simp only [List.mem_cons] at this
      rcases this with e | e
      · omega
      · exact e
    · have := (h x).2 (by simp [hx])
      have hl := b1.1 x hx
      simp only [List.mem_cons] at this
      rcases this with e | e
      · omega
      · exact e
theorem bitlen8 {x : Int} (h0 : 0 ≤ x) (h1 : x < 256) : IntKind.u8.wrap x = x := by rw [wrapU8]; omega
section
variable {c : Ctx} {w : World} {R : List SA} {A : Option Addr} {n k : Nat}
theorem less_ok {x y : Int} {Q : Value → World → Prop} (hk : Q (.bool (decide (x < y))) w) : CALL PG 49 [.int .i64 x, .int .i64 y] w Q := by
  refine call49 ?_
  unfold N49
  refine call62 ?_
  unfold N62
  refine letb rfl ?_
  (repeat (first | apply Exists.intro (α := Int) | apply Exists.intro (α := Bool) | apply Exists.intro (α := ByteArray) | (apply Exists.intro (α := Option Addr); apply Exists.intro (α := Nat); apply Exists.intro (α := Nat)) | apply Exists.intro (α := Option Addr) | apply Exists.intro (α := Value)))
  refine ⟨rfl, ?_⟩
  exact iff_ (by simp) (letb rfl hk)
theorem len64_ok {x : Int} (h0 : 0 ≤ x) (h1 : x < 256) {Q : Value → World → Prop} (hk : ∀ y, Q (.int .i64 y) w) : CALL PG 53 [.int .u64 x] w Q := by
  refine call53 ?_
  unfold N53
  refine ⟨fun a b w' => a = x ∧ b = 0 ∧ w' = w, ifdf (by omega) ⟨rfl, rfl, rfl⟩, ?_⟩
  rintro x _ w ⟨rfl, rfl, rfl⟩
  refine ⟨fun a b w' => a = x ∧ b = 0 ∧ w' = w, ifdf (by omega) ⟨rfl, rfl, rfl⟩, ?_⟩
  rintro x _ w ⟨rfl, rfl, rfl⟩
  refine ifdf (by omega) ?_
  rw [bitlen8 h0 h1]
  refine ⟨⟨h0, ?_⟩, leti rfl (hk _)⟩
  exact Int.lt_of_lt_of_le h1 (Int.le_of_eq (by kernel_rfl))
theorem len_ok' {x : Int} (h0 : 0 ≤ x) (h1 : x < 256) {Q : Value → World → Prop} (hk : ∀ y, Q (.int .i64 y) w) : CALL PG 36 [.int .u64 x] w Q := by
  refine call36 ?_
  unfold N36
  exact len64_ok h0 h1 fun y => ⟨_, rfl, leti rfl (hk _)⟩
theorem insI_ok {X : List Int} (hn : X.length = n) (hb : n ≤ 1000000) (h : St c w (own 3 1 A n k (X.flatMap iv) :: R)) {Q : Value → World → Prop}
    (hk : ∀ w' C, Srt fI C → C.Perm X → St c w' (own 3 1 A n k (C.flatMap iv) :: R) → Q (.tuple #[]) w') : CALL PG 43 [.slice A n k, .int .i64 0, .int .i64 (n : Int)] w Q := by
  refine call43 ?_
  unfold N43
  refine leti (y := 1) (by decide) ?_
  by_cases x0 : X = []
  · subst x0
    simp at hn
    subst hn
    refine ⟨fun m i w' => i = 1 ∧ St c w' (own 3 1 A 0 k (([] : List Int).flatMap iv) :: R), ⟨0, rfl, h⟩, ?_⟩
    rintro m _ w' ⟨rfl, h⟩
    exact ifdf (by decide) (hk w' [] List.Pairwise.nil (.refl _) h)
  have x1 := List.length_pos_iff.2 x0
  refine ⟨fun m i w' => ∃ (j : Nat) (U : List Int), j + m = X.length ∧ i = (j : Int) ∧ U.length = j ∧ Srt fI U ∧ U.Perm (X.take j) ∧ St c w' (own 3 1 A n k ((U ++ X.drop j).flatMap iv) :: R),
    ⟨X.length - 1, 1, X.take 1, by omega, rfl, by rw [List.length_take]; omega, by cases X with | nil => exact absurd rfl x0 | cons x r => exact List.pairwise_singleton _ _, .refl _, by rw [List.take_append_drop]; exact h⟩, ?_⟩
  clear h
  rintro m _ w' ⟨j, U, hj, rfl, hU, hs, hp, h⟩
  refine ifd (fun hlt => leti rfl ?_) fun hge => ?_
  rotate_left
  · have e : j = X.length := by omega
    rw [e, List.take_length] at hp
    rw [e, List.drop_eq_nil_of_le (Nat.le_refl _), List.append_nil] at h
    exact hk w' U hs hp h
  obtain ⟨z, hz⟩ := ex_get (L := X) (j := j) (by omega)
  have ed := drop_cons' hz
  have next : IntKind.i64.wrap ((j : Int) + 1) = ((j + 1 : Nat) : Int) := by rw [wrap_i64 (by omega) (by omega)]; omega
  refine ⟨fun m2 i w' => ∃ (U1 U2 : List Int), m2 = U1.length ∧ i = (U1.length : Int) ∧ U = U1 ++ U2 ∧ (∀ y, U2.head? = some y → Le fI z y) ∧ St c w' (own 3 1 A n k ((U1 ++ z :: U2 ++ X.drop (j + 1)).flatMap iv) :: R),
    ⟨_, U, [], rfl, by rw [hU], by simp, by simp, by rw [ed] at h; simpa [List.append_assoc] using h⟩, ?_⟩
  clear h
  rintro m2 _ w' ⟨U1, U2, rfl, rfl, hU12, hz2, h⟩
  have hjl : U1.length + U2.length = j := by rw [← hU, hU12, List.length_append]
  have lD : (X.drop (j + 1)).length = X.length - (j + 1) := by simp
  have done : ∀ w', St c w' (own 3 1 A n k ((U1 ++ z :: U2 ++ X.drop (j + 1)).flatMap iv) :: R) → (∀ x, U1.getLast? = some x → Le fI x z) → ∃ m5, m5 < m ∧ ∃ (j' : Nat) (U : List Int), j' + m5 = X.length ∧ ((j + 1 : Nat) : Int) = (j' : Int) ∧ U.length = j' ∧ Srt fI U ∧ U.Perm (X.take j') ∧ St c w' (own 3 1 A n k ((U ++ X.drop j').flatMap iv) :: R) := by
    intro w' h h1
    refine ⟨m - 1, by omega, j + 1, U1 ++ z :: U2, by omega, rfl, by simp <;> omega, Srt.ins ordI (by rw [← hU12]; exact hs) h1 hz2, ?_, h⟩
    rw [take_snoc' hz]
    refine List.Perm.trans ?_ (List.Perm.append_right [z] hp)
    rw [hU12]
    have : (U1 ++ z :: U2).Perm (z :: (U1 ++ U2)) := List.perm_middle
    exact this.trans (List.perm_append_singleton z (U1 ++ U2)).symm
  refine ifd (fun hlt2 => ?_) fun hge2 => ?_
  rotate_left
  · have : U1 = [] := List.eq_nil_of_length_eq_zero (by omega)
    subst this
    exact leti next (done _ h.drew (by simp))
  rcases List.eq_nil_or_concat U1 with rfl | ⟨q, u, rfl⟩
  · simp at hlt2
  rw [List.concat_eq_append] at *
  have h := h.drew
  have e0 : q ++ [u] ++ z :: U2 ++ X.drop (j + 1) = q ++ u :: z :: (U2 ++ X.drop (j + 1)) := by simp [List.append_assoc]
  have lq : (q ++ [u]).length = q.length + 1 := by simp
  rw [lq] at hjl hlt2 ⊢
  rw [e0] at h
  have e1 : IntKind.i64.wrap (((q.length + 1 : Nat) : Int) - 1) = (q.length : Int) := by rw [wrap_i64 (by omega) (by omega)]; omega
  rw [e1]
  have gz : (q ++ u :: z :: (U2 ++ X.drop (j + 1)))[q.length + 1]? = some z := by rw [List.getElem?_append_right (by omega)]; simp
  have gu : (q ++ u :: z :: (U2 ++ X.drop (j + 1)))[q.length]? = some u := by rw [List.getElem?_append_right (by omega)]; simp
  have lT : (q ++ u :: z :: (U2 ++ X.drop (j + 1))).length = n := by simp <;> omega
  refine h.ix (z := 0) (RdIn.own .head) gz (fun a ha => ?_) (by omega)
  subst ha
  refine h.rdWI (RdIn.own .head) gz ?_
  refine h.ix (z := 0) (RdIn.own .head) gu (fun a ha => ?_) (by omega)
  injection ha with ha
  subst ha
  refine h.rdWI (RdIn.own .head) gu ?_
  refine less_ok ?_
  (repeat (first | apply Exists.intro (α := Int) | apply Exists.intro (α := Bool) | apply Exists.intro (α := ByteArray) | (apply Exists.intro (α := Option Addr); apply Exists.intro (α := Nat); apply Exists.intro (α := Nat)) | apply Exists.intro (α := Option Addr) | apply Exists.intro (α := Value)))
  refine ⟨rfl, ?_⟩
  refine ifd (fun hcm => ?_) fun hcm => ?_
  rotate_left
  · rw [← e0] at h
    exact leti next (done _ h fun x hx => by simp at hx; subst hx; unfold Le fI; omega)
  have h := h.drew
  refine h.ix (z := 0) (RdIn.own .head) gu (fun a ha => ?_) (by omega)
  injection ha with ha
  subst ha
  refine h.rdWI (RdIn.own .head) gu ?_
  refine h.ix (z := 0) (RdIn.own .head) gz (fun a ha => ?_) (by omega)
  injection ha with ha
  subst ha
  refine h.rdWI (RdIn.own .head) gz ?_
  refine h.ix (z := 0) (RdIn.own .head) gz (fun a ha => ?_) (by omega)
  injection ha with ha
  subst ha
  refine h.stE .head (by omega) u (iv_flat1 u) fun w' h => ?_
  have gu' : ((q ++ u :: z :: (U2 ++ X.drop (j + 1))).set (q.length + 1) u)[q.length]? = some u := by rw [List.getElem?_set_ne (by omega)]; exact gu
  refine h.ix (z := 0) (RdIn.own .head) gu' (fun a ha => ?_) (by omega)
  injection ha with ha
  subst ha
  refine h.stE .head (by rw [List.length_set]; omega) z (iv_flat1 z) fun w' h => ?_
  have sw : ((q ++ u :: z :: (U2 ++ X.drop (j + 1))).set (q.length + 1) u).set q.length z = q ++ z :: (u :: U2) ++ X.drop (j + 1) := by
    rw [List.set_append_right _ _ (by omega), List.set_append_right _ _ (by omega)]
    simp
  rw [sw] at h
  exact leti rfl ⟨_, by omega, q, u :: U2, rfl, rfl, by rw [hU12]; simp, fun y hy => by simp at hy; subst hy; unfold Le fI; omega, h⟩
theorem sortI_ok {X : List Int} (hn : X.length = n) (hb : n ≤ 12) (h : St c w (own 3 1 A n k (X.flatMap iv) :: R)) {Q : Value → World → Prop}
    (hk : ∀ w' C, Srt fI C → C.Perm X → St c w' (own 3 1 A n k (C.flatMap iv) :: R) → Q (.tuple #[]) w') : CALL PG 28 [.slice A n k] w Q := by
  refine call28 ?_
  unfold N28
  refine leti rfl ?_
  rw [show IntKind.u64.wrap (n : Int) = n by rw [wrapU64]; omega]
  refine len_ok' (by omega) (by omega) fun y => ?_
  (repeat (first | apply Exists.intro (α := Int) | apply Exists.intro (α := Bool) | apply Exists.intro (α := ByteArray) | (apply Exists.intro (α := Option Addr); apply Exists.intro (α := Nat); apply Exists.intro (α := Nat)) | apply Exists.intro (α := Option Addr) | apply Exists.intro (α := Value)))
  refine ⟨rfl, ?_⟩
  refine call35 ?_
  unfold N35
  refine ⟨fun m a b l x y w' => a = 0 ∧ b = (n : Int) ∧ w' = w, ⟨0, rfl, rfl, rfl⟩, ?_⟩
  rintro m _ _ l x y w' ⟨rfl, rfl, rfl⟩
  refine leti (y := (n : Int)) (by rw [wrap_i64 (by omega) (by omega)]; omega) (ifdt (by omega) ?_)
  refine insI_ok hn (by omega) h fun w' C hC pC h => ?_
  (repeat (first | apply Exists.intro (α := Int) | apply Exists.intro (α := Bool) | apply Exists.intro (α := ByteArray) | (apply Exists.intro (α := Option Addr); apply Exists.intro (α := Nat); apply Exists.intro (α := Nat)) | apply Exists.intro (α := Option Addr) | apply Exists.intro (α := Value)))
  refine ⟨rfl, ?_⟩
  (repeat (first | apply Exists.intro (α := Int) | apply Exists.intro (α := Bool) | apply Exists.intro (α := ByteArray) | (apply Exists.intro (α := Option Addr); apply Exists.intro (α := Nat); apply Exists.intro (α := Nat)) | apply Exists.intro (α := Option Addr) | apply Exists.intro (α := Value)))
  refine ⟨rfl, ?_⟩
  exact hk _ C hC pC h
end
end Go.Br

/- What the code of some functions says, as the core reads it; each reading is checked by the kernel. -/
set_option linter.unusedVariables false
set_option maxRecDepth 100000
namespace Go.Br
open Go Go.Proofs

/-- slices.choosePivotOrdered[int] -/
def N46 (data : Option Addr) (dataN dataC : Nat) (a : Int) (b : Int) (w : World) (Q : Value → World → Prop) : Prop :=
 LETI (IntKind.i64.wrap (b - a)) fun l =>
 RUNA PG (Instr.alloc 3 true (.tuple #[])) w fun a9 w1 =>
 NEED ((4 : Int) ≠ 0)
 (LETI (IntKind.i64.wrap (a + (IntKind.i64.wrap ((IntKind.i64.wrap (Int.tdiv l (4 : Int))) * (1 : Int))))) fun i =>
 NEED ((4 : Int) ≠ 0)
 (LETI (IntKind.i64.wrap (a + (IntKind.i64.wrap ((IntKind.i64.wrap (Int.tdiv l (4 : Int))) * (2 : Int))))) fun j =>
 NEED ((4 : Int) ≠ 0)
 (LETI (IntKind.i64.wrap (a + (IntKind.i64.wrap ((IntKind.i64.wrap (Int.tdiv l (4 : Int))) * (3 : Int))))) fun k =>
 ∃ R : Int → World → Prop,
 (IFB (decide (l ≥ (8 : Int)))
 (IFB (decide (l ≥ (50 : Int)))
 (CALL PG 60 [(.slice data dataN dataC), (.int .i64 i), (.pointer (some a9))] w1 fun v w2 =>
 ∃ x37 : Int, v = (.int .i64 x37) ∧
 (LETI x37 fun i1 =>
 CALL PG 60 [(.slice data dataN dataC), (.int .i64 j), (.pointer (some a9))] w2 fun v1 w3 =>
 ∃ x40 : Int, v1 = (.int .i64 x40) ∧
 (LETI x40 fun j1 =>
 CALL PG 60 [(.slice data dataN dataC), (.int .i64 k), (.pointer (some a9))] w3 fun v2 w4 =>
 ∃ x43 : Int, v2 = (.int .i64 x43) ∧
 (LETI x43 fun k1 =>
 CALL PG 61 [(.slice data dataN dataC), (.int .i64 i1), (.int .i64 j1), (.int .i64 k1), (.pointer (some a9))] w4 fun v3 w5 =>
 ∃ x48 : Int, v3 = (.int .i64 x48) ∧
 (LETI x48 fun j2 =>
 R j2 w5)))))
 (CALL PG 61 [(.slice data dataN dataC), (.int .i64 i), (.int .i64 j), (.int .i64 k), (.pointer (some a9))] w1 fun v4 w6 =>
 ∃ x48v1 : Int, v4 = (.int .i64 x48v1) ∧
 (LETI x48v1 fun j3 =>
 R j3 w6)))
 (R j w1)) ∧
 (∀ (j4 : Int) (w7 : World), R j4 w7 → (RDI PG (loadVar 3 a9) .i64 w7 fun x49 =>
 LETB (x49 == (0 : Int)) fun x51 =>
 IFB x51
 (LETI j4 fun pivot =>
 Q (.tuple #[(.int .i64 pivot), (.int .i64 (1 : Int))]) w7)
 (LETB (x49 == (12 : Int)) fun x54 =>
 IFB x54
 (LETI j4 fun pivot1 =>
 Q (.tuple #[(.int .i64 pivot1), (.int .i64 (2 : Int))]) w7)
 (LETI j4 fun pivot2 =>
 Q (.tuple #[(.int .i64 pivot2), (.int .i64 (0 : Int))]) w7)))))))
theorem eq46 : ∀ (data : Option Addr) (dataN dataC : Nat) (a : Int) (b : Int) (w : World) (Q : Value → World → Prop), vcF PG TB Tryd.f46 (.s .nil (.s .nil (.s .nil (.s .nil (.s .nil (.s .nil (.cut [(11, 3)] .nil .nil))))))) [(.slice data dataN dataC), (.int .i64 a), (.int .i64 b)] w Q = N46 data dataN dataC a b w Q := by intros; kernel_rfl
theorem call46 {data : Option Addr} {dataN dataC : Nat} {a : Int} {b : Int} {w : World} {Q : Value → World → Prop} (hN : N46 data dataN dataC a b w Q) : CALL PG 46 [(.slice data dataN dataC), (.int .i64 a), (.int .i64 b)] w Q := calls_vc tabOk Tryd.func46 (by rw [eq46]; exact hN)

/-- slices.reverseRangeOrdered[int] -/
def N47 (data : Option Addr) (dataN dataC : Nat) (a : Int) (b : Int) (w : World) (Q : Value → World → Prop) : Prop :=
 LETI a fun i =>
 LETI (IntKind.i64.wrap (b - (1 : Int))) fun j =>
 ∃ I : Nat → Int → Int → World → Prop,
 (∃ m, I m i j w) ∧
 (∀ m1 (i1 : Int) (j1 : Int) (w1 : World), I m1 i1 j1 w1 → (IFB (decide (i1 < j1))
 (IDX data dataN j1 fun a20 =>
 RDI PG (loadVar 3 (Addr.add a20 (Int.toNat j1 * 1))) .i64 (w1.drew) fun x21 =>
 IDX data dataN i1 fun a24 =>
 RDI PG (loadVar 3 (Addr.add a24 (Int.toNat i1 * 1))) .i64 (w1.drew) fun x25 =>
 IDX data dataN i1 fun a26 =>
 RUNU PG (storeVar 3 (Addr.add a26 (Int.toNat i1 * 1)) (.int .i64 x21)) (w1.drew) fun w2 =>
 IDX data dataN j1 fun a27 =>
 RUNU PG (storeVar 3 (Addr.add a27 (Int.toNat j1 * 1)) (.int .i64 x25)) w2 fun w3 =>
 LETI (IntKind.i64.wrap (i1 + (1 : Int))) fun i2 =>
 LETI (IntKind.i64.wrap (j1 - (1 : Int))) fun j2 =>
 ∃ m2, m2 < m1 ∧ I m2 i2 j2 w3)
 (Q (.tuple #[]) w1)))
theorem eq47 : ∀ (data : Option Addr) (dataN dataC : Nat) (a : Int) (b : Int) (w : World) (Q : Value → World → Prop), vcF PG TB Tryd.f47 (.s .nil (.s .nil (.u (.loop [(6, 3), (7, 3)] .nil)))) [(.slice data dataN dataC), (.int .i64 a), (.int .i64 b)] w Q = N47 data dataN dataC a b w Q := by intros; kernel_rfl
theorem call47 {data : Option Addr} {dataN dataC : Nat} {a : Int} {b : Int} {w : World} {Q : Value → World → Prop} (hN : N47 data dataN dataC a b w Q) : CALL PG 47 [(.slice data dataN dataC), (.int .i64 a), (.int .i64 b)] w Q := calls_vc tabOk Tryd.func47 (by rw [eq47]; exact hN)

/-- slices.medianAdjacentOrdered[int] -/
def N60 (data : Option Addr) (dataN dataC : Nat) (a : Int) (swaps : Option Addr) (w : World) (Q : Value → World → Prop) : Prop :=
 CALL PG 61 [(.slice data dataN dataC), (.int .i64 (IntKind.i64.wrap (a - (1 : Int)))), (.int .i64 a), (.int .i64 (IntKind.i64.wrap (a + (1 : Int)))), (.pointer swaps)] w fun v w1 =>
 ∃ x14 : Int, v = (.int .i64 x14) ∧
 (LETI x14 fun x6 =>
 Q (.int .i64 x6) w1)
theorem eq60 : ∀ (data : Option Addr) (dataN dataC : Nat) (a : Int) (swaps : Option Addr) (w : World) (Q : Value → World → Prop), vcF PG TB Tryd.f60 .nil [(.slice data dataN dataC), (.int .i64 a), (.pointer swaps)] w Q = N60 data dataN dataC a swaps w Q := by intros; kernel_rfl
theorem call60 {data : Option Addr} {dataN dataC : Nat} {a : Int} {swaps : Option Addr} {w : World} {Q : Value → World → Prop} (hN : N60 data dataN dataC a swaps w Q) : CALL PG 60 [(.slice data dataN dataC), (.int .i64 a), (.pointer swaps)] w Q := calls_vc tabOk Tryd.func60 (by rw [eq60]; exact hN)

/-- slices.medianOrdered[int] -/
def N61 (data : Option Addr) (dataN dataC : Nat) (a : Int) (b : Int) (c : Int) (swaps : Option Addr) (w : World) (Q : Value → World → Prop) : Prop :=
 CALL PG 66 [(.slice data dataN dataC), (.int .i64 a), (.int .i64 b), (.pointer swaps)] w fun v w1 =>
 ∃ x16 : Int, ∃ x16v1 : Int, v = (.tuple #[(.int .i64 x16), (.int .i64 x16v1)]) ∧
 (LETI x16 fun a1 =>
 LETI x16v1 fun b1 =>
 CALL PG 66 [(.slice data dataN dataC), (.int .i64 b1), (.int .i64 c), (.pointer swaps)] w1 fun v1 w2 =>
 ∃ x24 : Int, ∃ x24v1 : Int, v1 = (.tuple #[(.int .i64 x24), (.int .i64 x24v1)]) ∧
 (LETI x24 fun b2 =>
 LETI x24v1 fun c1 =>
 CALL PG 66 [(.slice data dataN dataC), (.int .i64 a1), (.int .i64 b2), (.pointer swaps)] w2 fun v2 w3 =>
 ∃ x32 : Int, ∃ x32v1 : Int, v2 = (.tuple #[(.int .i64 x32), (.int .i64 x32v1)]) ∧
 (LETI x32 fun a2 =>
 LETI x32v1 fun b3 =>
 LETI b3 fun x10 =>
 Q (.int .i64 x10) w3)))
theorem eq61 : ∀ (data : Option Addr) (dataN dataC : Nat) (a : Int) (b : Int) (c : Int) (swaps : Option Addr) (w : World) (Q : Value → World → Prop), vcF PG TB Tryd.f61 .nil [(.slice data dataN dataC), (.int .i64 a), (.int .i64 b), (.int .i64 c), (.pointer swaps)] w Q = N61 data dataN dataC a b c swaps w Q := by intros; kernel_rfl
theorem call61 {data : Option Addr} {dataN dataC : Nat} {a : Int} {b : Int} {c : Int} {swaps : Option Addr} {w : World} {Q : Value → World → Prop} (hN : N61 data dataN dataC a b c swaps w Q) : CALL PG 61 [(.slice data dataN dataC), (.int .i64 a), (.int .i64 b), (.int .i64 c), (.pointer swaps)] w Q := calls_vc tabOk Tryd.func61 (by rw [eq61]; exact hN)

/-- slices.order2Ordered[int] -/
def N66 (data : Option Addr) (dataN dataC : Nat) (a : Int) (b : Int) (swaps : Option Addr) (w : World) (Q : Value → World → Prop) : Prop :=
 IDX data dataN b fun a12 =>
 RDI PG (loadVar 3 (Addr.add a12 (Int.toNat b * 1))) .i64 (w.drew) fun x13 =>
 IDX data dataN a fun a16 =>
 RDI PG (loadVar 3 (Addr.add a16 (Int.toNat a * 1))) .i64 (w.drew) fun x17 =>
 CALL PG 49 [(.int .i64 x13), (.int .i64 x17)] (w.drew) fun v w1 =>
 ∃ x18 : Bool, v = (.bool x18) ∧
 (IFB x18
 (NILC swaps fun a20 =>
 RDI PG (loadVar 3 a20) .i64 w1 fun x21 =>
 NILC swaps fun a23 =>
 RUNU PG (storeVar 3 a23 (.int .i64 (IntKind.i64.wrap (x21 + (1 : Int))))) w1 fun w2 =>
 LETI b fun x8 =>
 LETI a fun x9 =>
 Q (.tuple #[(.int .i64 x8), (.int .i64 x9)]) w2)
 (LETI a fun x8v1 =>
 LETI b fun x9v1 =>
 Q (.tuple #[(.int .i64 x8v1), (.int .i64 x9v1)]) w1))
theorem eq66 : ∀ (data : Option Addr) (dataN dataC : Nat) (a : Int) (b : Int) (swaps : Option Addr) (w : World) (Q : Value → World → Prop), vcF PG TB Tryd.f66 .nil [(.slice data dataN dataC), (.int .i64 a), (.int .i64 b), (.pointer swaps)] w Q = N66 data dataN dataC a b swaps w Q := by intros; kernel_rfl
theorem call66 {data : Option Addr} {dataN dataC : Nat} {a : Int} {b : Int} {swaps : Option Addr} {w : World} {Q : Value → World → Prop} (hN : N66 data dataN dataC a b swaps w Q) : CALL PG 66 [(.slice data dataN dataC), (.int .i64 a), (.int .i64 b), (.pointer swaps)] w Q := calls_vc tabOk Tryd.func66 (by rw [eq66]; exact hN)

end Go.Br

/- slices.Sort of numbers, of any length: the array, the pivot. -/
set_option linter.unusedVariables false
set_option linter.unusedSimpArgs false
set_option linter.unnecessarySimpa false
namespace Go.Br
open Go
instance biPdqa : Zro PG 3 1 8 (.int .i64 0) := ⟨tiOf (by kernel_rfl)⟩
attribute [local irreducible] Addr.add RD RDS RUN RUNU NILC LETB CALL CALLX CALLV

/-- The number at a place. -/
def at0 (D : List Int) (i : Nat) : Int := D.getD i 0
theorem at0_get {D : List Int} {i : Nat} (h : i < D.length) : D[i]? = some (at0 D i) := by
  unfold at0
  rw [List.getD_eq_getElem?_getD, List.getElem?_eq_getElem h]
  rfl
theorem at0_set {D : List Int} {i j : Nat} {x : Int} (h : i < D.length) : at0 (D.set i x) j = if j = i then x else at0 D j := by
  unfold at0
  rw [List.getD_eq_getElem?_getD, List.getElem?_set]
  by_cases hij : i = j
  · subst hij; simp [h]
  · rw [if_neg hij, if_neg (fun e => hij e.symm), List.getD_eq_getElem?_getD]
/-- Two places change their numbers. -/
def swp (D : List Int) (i j : Nat) : List Int := (D.set i (at0 D j)).set j (at0 D i)
theorem swp_length (D : List Int) (i j : Nat) : (swp D i j).length = D.length := by unfold swp; simp
theorem swp_at {D : List Int} {i j : Nat} (hi : i < D.length) (hj : j < D.length) (m : Nat) : at0 (swp D i j) m = if m = j then at0 D i else if m = i then at0 D j else at0 D m := by
  unfold swp
  rw [at0_set (by simpa using hj), at0_set hi]
theorem swp_perm {D : List Int} {i j : Nat} (hi : i < D.length) (hj : j < D.length) : (swp D i j).Perm D := by
  unfold swp
  have h1 : at0 D j = D[j] := by
    have := at0_get hj
    rw [List.getElem?_eq_getElem hj] at this
    injection this with this
    exact this.symm
  have h2 : at0 D i = D[i] := by
    have := at0_get hi
    rw [List.getElem?_eq_getElem hi] at this
    injection this with this
    exact this.symm
  rw [h1, h2]
  exact List.set_set_perm hi hj
/-- The numbers of some places are mixed; the others stay. -/
structure Mix (a b : Nat) (D D' : List Int) : Prop where
  len : D'.length = D.length
  perm : D'.Perm D
  out : ∀ i, i < a ∨ b ≤ i → at0 D' i = at0 D i
  sub : ∀ t, a ≤ t → t < b → ∃ s, a ≤ s ∧ s < b ∧ at0 D' t = at0 D s
theorem Mix.refl (a b : Nat) (D : List Int) : Mix a b D D := ⟨rfl, .refl _, fun _ _ => rfl, fun t h1 h2 => ⟨t, h1, h2, rfl⟩⟩
theorem Mix.trans {a b : Nat} {D D' D'' : List Int} (h : Mix a b D D') (h' : Mix a b D' D'') : Mix a b D D'' := ⟨h'.len.trans h.len, h'.perm.trans h.perm, fun i hi => (h'.out i hi).trans (h.out i hi), fun t h1 h2 => by
  obtain ⟨s, s1, s2, s3⟩ := h'.sub t h1 h2
  obtain ⟨r, r1, r2, r3⟩ := h.sub s s1 s2
  exact ⟨r, r1, r2, s3.trans r3⟩⟩
theorem Mix.mono {a b a' b' : Nat} {D D' : List Int} (h : Mix a b D D') (ha : a' ≤ a) (hb : b ≤ b') : Mix a' b' D D' := ⟨h.len, h.perm, fun i hi => h.out i (by omega), fun t h1 h2 => by
  by_cases e : a ≤ t ∧ t < b
  · obtain ⟨s, s1, s2, s3⟩ := h.sub t e.1 e.2
    exact ⟨s, by omega, by omega, s3⟩
  · exact ⟨t, h1, h2, h.out t (by omega)⟩⟩
theorem Mix.swp {a b : Nat} {D : List Int} {i j : Nat} (hi : a ≤ i ∧ i < b) (hj : a ≤ j ∧ j < b) (hb : b ≤ D.length) : Mix a b D (Br.swp D i j) :=
  ⟨swp_length D i j, swp_perm (by omega) (by omega), fun m hm => by rw [swp_at (by omega) (by omega), if_neg (by omega), if_neg (by omega)], fun t h1 h2 => by
    by_cases e1 : t = j
    · exact ⟨i, hi.1, hi.2, by rw [swp_at (by omega) (by omega), if_pos e1]⟩
    · by_cases e2 : t = i
      · exact ⟨j, hj.1, hj.2, by rw [swp_at (by omega) (by omega), if_neg e1, if_pos e2]⟩
      · exact ⟨t, h1, h2, by rw [swp_at (by omega) (by omega), if_neg e1, if_neg e2]⟩⟩
section
variable {c : Ctx} {w : World} {L R : List SA} {A : Option Addr} {n k : Nat} {D : List Int}
/-- A number is read. -/
theorem St.arrR {K : Int → Prop} (h : St c w L) (hp : Pick (Br.own 3 1 A n k (D.flatMap iv)) L R) (hn : D.length = n) {i : Nat} (hi : i < n) (hk : K (at0 D i)) :
    IDX A n (i : Int) fun a => RDI PG (loadVar 3 (Addr.add a (Int.toNat (i : Int) * 1))) .i64 w K :=
  h.ix (z := 0) (RdIn.own hp) (at0_get (by omega)) (fun a ha => by subst ha; exact h.rdWI (RdIn.own hp) (at0_get (by omega)) hk) hi
/-- A number is written. -/
theorem St.arrW {K : World → Prop} (h : St c w L) (hp : Pick (Br.own 3 1 A n k (D.flatMap iv)) L R) (hn : D.length = n) {i : Nat} (hi : i < n) {x : Int} (hk : ∀ w', St c w' (Br.own 3 1 A n k ((D.set i x).flatMap iv) :: R) → K w') :
    IDX A n (i : Int) fun a => RUNU PG (storeVar 3 (Addr.add a (Int.toNat (i : Int) * 1)) (.int .i64 x)) w K :=
  h.ix (z := 0) (RdIn.own hp) (at0_get (by omega)) (fun a ha => by subst ha; exact h.stE hp (by omega) x (iv_flat1 x) hk) hi
theorem order2_ok (h : St c w (own 3 1 A n k (D.flatMap iv) :: L)) (hn : D.length = n) {a b q : Nat} {s : Int} (hp : Pick (Br.blk q 3 [.int .i64 s]) L R) (ha : a < n) (hb : b < n) {Q : Value → World → Prop}
    (hk : ∀ (x y : Nat) (s' : Int) w', ((x = a ∧ y = b) ∨ (x = b ∧ y = a)) → St c w' (own 3 1 A n k (D.flatMap iv) :: Br.blk q 3 [.int .i64 s'] :: R) → Q (.tuple #[.int .i64 (x : Int), .int .i64 (y : Int)]) w') :
    CALL PG 66 [.slice A n k, .int .i64 (a : Int), .int .i64 (b : Int), .pointer (some ⟨q, 0, none⟩)] w Q := by
  have h := (h.pick (.tail hp)).swap
  refine call66 ?_
  unfold N66
  have h := h.drew
  refine h.arrR .head hn hb ?_
  refine h.arrR .head hn ha ?_
  refine less_ok ?_
  (repeat (first | apply Exists.intro (α := Int) | apply Exists.intro (α := Bool) | apply Exists.intro (α := ByteArray) | (apply Exists.intro (α := Option Addr); apply Exists.intro (α := Nat); apply Exists.intro (α := Nat)) | apply Exists.intro (α := Option Addr) | apply Exists.intro (α := Value)))
  refine ⟨rfl, ?_⟩
  refine ifd (fun _ => ?_) fun _ => leti rfl (leti rfl (hk a b s _ (.inl ⟨rfl, rfl⟩) h))
  refine nilc ?_
  refine h.rdvI ?_
  refine nilc ?_
  refine h.stV fun w' h => ?_
  exact leti rfl (leti rfl (hk b a _ _ (.inr ⟨rfl, rfl⟩) h.swap))
theorem median_ok (h : St c w (own 3 1 A n k (D.flatMap iv) :: L)) (hn : D.length = n) {a b d q : Nat} {s : Int} (hp : Pick (Br.blk q 3 [.int .i64 s]) L R) (ha : a < n) (hb : b < n) (hd : d < n) {Q : Value → World → Prop}
    (hk : ∀ (x : Nat) (s' : Int) w', (x = a ∨ x = b ∨ x = d) → St c w' (own 3 1 A n k (D.flatMap iv) :: Br.blk q 3 [.int .i64 s'] :: R) → Q (.int .i64 (x : Int)) w') :
    CALL PG 61 [.slice A n k, .int .i64 (a : Int), .int .i64 (b : Int), .int .i64 (d : Int), .pointer (some ⟨q, 0, none⟩)] w Q := by
  refine call61 ?_
  unfold N61
  refine order2_ok h hn hp ha hb fun x1 y1 s1 w' e1 h => ?_
  (repeat (first | apply Exists.intro (α := Int) | apply Exists.intro (α := Bool) | apply Exists.intro (α := ByteArray) | (apply Exists.intro (α := Option Addr); apply Exists.intro (α := Nat); apply Exists.intro (α := Nat)) | apply Exists.intro (α := Option Addr) | apply Exists.intro (α := Value)))
  refine ⟨rfl, ?_⟩
  refine leti rfl (leti rfl ?_)
  refine order2_ok h hn .head (by omega) hd fun x2 y2 s2 w' e2 h => ?_
  (repeat (first | apply Exists.intro (α := Int) | apply Exists.intro (α := Bool) | apply Exists.intro (α := ByteArray) | (apply Exists.intro (α := Option Addr); apply Exists.intro (α := Nat); apply Exists.intro (α := Nat)) | apply Exists.intro (α := Option Addr) | apply Exists.intro (α := Value)))
  refine ⟨rfl, ?_⟩
  refine leti rfl (leti rfl ?_)
  refine order2_ok h hn .head (by omega) (by omega) fun x3 y3 s3 w' e3 h => ?_
  (repeat (first | apply Exists.intro (α := Int) | apply Exists.intro (α := Bool) | apply Exists.intro (α := ByteArray) | (apply Exists.intro (α := Option Addr); apply Exists.intro (α := Nat); apply Exists.intro (α := Nat)) | apply Exists.intro (α := Option Addr) | apply Exists.intro (α := Value)))
  refine ⟨rfl, ?_⟩
  exact leti rfl (leti rfl (leti rfl (hk y3 s3 _ (by omega) h)))
theorem medadj_ok (h : St c w (own 3 1 A n k (D.flatMap iv) :: L)) (hn : D.length = n) (hb : n ≤ 1000000) {a q : Nat} {s : Int} (hp : Pick (Br.blk q 3 [.int .i64 s]) L R) (ha : 0 < a ∧ a + 1 < n) {Q : Value → World → Prop}
    (hk : ∀ (x : Nat) (s' : Int) w', a - 1 ≤ x ∧ x ≤ a + 1 → St c w' (own 3 1 A n k (D.flatMap iv) :: Br.blk q 3 [.int .i64 s'] :: R) → Q (.int .i64 (x : Int)) w') :
    CALL PG 60 [.slice A n k, .int .i64 (a : Int), .pointer (some ⟨q, 0, none⟩)] w Q := by
  refine call60 ?_
  unfold N60
  rw [show IntKind.i64.wrap ((a : Int) - 1) = ((a - 1 : Nat) : Int) by rw [wrap_i64 (by omega) (by omega)]; omega, show IntKind.i64.wrap ((a : Int) + 1) = ((a + 1 : Nat) : Int) by rw [wrap_i64 (by omega) (by omega)]; omega]
  refine median_ok h hn hp (by omega) (by omega) (by omega) fun x s' w' hx h => ?_
  (repeat (first | apply Exists.intro (α := Int) | apply Exists.intro (α := Bool) | apply Exists.intro (α := ByteArray) | (apply Exists.intro (α := Option Addr); apply Exists.intro (α := Nat); apply Exists.intro (α := Nat)) | apply Exists.intro (α := Option Addr) | apply Exists.intro (α := Value)))
  refine ⟨rfl, ?_⟩
  exact leti rfl (hk x s' _ (by omega) h)
theorem choose_ok (h : St c w (own 3 1 A n k (D.flatMap iv) :: L)) (hn : D.length = n) (hb : n ≤ 1000000) {a b : Nat} (hab : a + 12 < b) (hbn : b ≤ n) {Q : Value → World → Prop}
    (hk : ∀ (x : Nat) (hint : Int) w', a ≤ x ∧ x < b → St c w' (own 3 1 A n k (D.flatMap iv) :: L) → Q (.tuple #[.int .i64 (x : Int), .int .i64 hint]) w') :
    CALL PG 46 [.slice A n k, .int .i64 (a : Int), .int .i64 (b : Int)] w Q := by
  refine call46 ?_
  unfold N46
  refine leti (y := ((b - a : Nat) : Int)) (by rw [wrap_i64 (by omega) (by omega)]; omega) ?_
  refine h.allocZV fun q w' h => ?_
  have ed : IntKind.i64.wrap (Int.tdiv ((b - a : Nat) : Int) 4) = (((b - a) / 4 : Nat) : Int) := by
    rw [Int.tdiv_eq_ediv_of_nonneg (by omega), wrap_i64 (by omega) (by omega)]
    omega
  rw [ed]
  generalize hd : (b - a) / 4 = e at *
  have he : 3 ≤ e ∧ 4 * e ≤ b - a := by omega
  refine ⟨by decide, leti (y := ((a + e : Nat) : Int)) (by rw [wrap_i64 (n := (e : Int) * 1) (by omega) (by omega), wrap_i64 (by omega) (by omega)]; omega) ?_⟩
  refine ⟨by decide, leti (y := ((a + 2 * e : Nat) : Int)) (by rw [wrap_i64 (n := (e : Int) * 2) (by omega) (by omega), wrap_i64 (by omega) (by omega)]; omega) ?_⟩
  refine ⟨by decide, leti (y := ((a + 3 * e : Nat) : Int)) (by rw [wrap_i64 (n := (e : Int) * 3) (by omega) (by omega), wrap_i64 (by omega) (by omega)]; omega) ?_⟩
  refine ⟨fun j w' => ∃ (x : Nat) (s : Int), j = x ∧ a ≤ x ∧ x < b ∧ St c w' (own 3 1 A n k (D.flatMap iv) :: Br.blk q 3 [.int .i64 s] :: L), ?_, ?_⟩
  · have h := h.swap
    refine ifdt (by omega) (ifd (fun _ => ?_) fun _ => ?_)
    · refine medadj_ok h hn hb .head (by omega) fun x1 s1 w' hx1 h => ?_
      (repeat (first | apply Exists.intro (α := Int) | apply Exists.intro (α := Bool) | apply Exists.intro (α := ByteArray) | (apply Exists.intro (α := Option Addr); apply Exists.intro (α := Nat); apply Exists.intro (α := Nat)) | apply Exists.intro (α := Option Addr) | apply Exists.intro (α := Value)))
      refine ⟨rfl, ?_⟩
      refine leti rfl ?_
      refine medadj_ok h hn hb .head (by omega) fun x2 s2 w' hx2 h => ?_
      (repeat (first | apply Exists.intro (α := Int) | apply Exists.intro (α := Bool) | apply Exists.intro (α := ByteArray) | (apply Exists.intro (α := Option Addr); apply Exists.intro (α := Nat); apply Exists.intro (α := Nat)) | apply Exists.intro (α := Option Addr) | apply Exists.intro (α := Value)))
      refine ⟨rfl, ?_⟩
      refine leti rfl ?_
      refine medadj_ok h hn hb .head (by omega) fun x3 s3 w' hx3 h => ?_
      (repeat (first | apply Exists.intro (α := Int) | apply Exists.intro (α := Bool) | apply Exists.intro (α := ByteArray) | (apply Exists.intro (α := Option Addr); apply Exists.intro (α := Nat); apply Exists.intro (α := Nat)) | apply Exists.intro (α := Option Addr) | apply Exists.intro (α := Value)))
      refine ⟨rfl, ?_⟩
      refine leti rfl ?_
      refine median_ok h hn .head (by omega) (by omega) (by omega) fun x s' w' hx h => ?_
      (repeat (first | apply Exists.intro (α := Int) | apply Exists.intro (α := Bool) | apply Exists.intro (α := ByteArray) | (apply Exists.intro (α := Option Addr); apply Exists.intro (α := Nat); apply Exists.intro (α := Nat)) | apply Exists.intro (α := Option Addr) | apply Exists.intro (α := Value)))
      refine ⟨rfl, ?_⟩
      exact leti rfl ⟨x, s', rfl, by omega, by omega, h⟩
    · refine median_ok h hn .head (by omega) (by omega) (by omega) fun x s' w' hx h => ?_
      (repeat (first | apply Exists.intro (α := Int) | apply Exists.intro (α := Bool) | apply Exists.intro (α := ByteArray) | (apply Exists.intro (α := Option Addr); apply Exists.intro (α := Nat); apply Exists.intro (α := Nat)) | apply Exists.intro (α := Option Addr) | apply Exists.intro (α := Value)))
      refine ⟨rfl, ?_⟩
      exact leti rfl ⟨x, s', rfl, by omega, by omega, h⟩
  clear h
  rintro _ w' ⟨x, s, rfl, hx1, hx2, h⟩
  refine h.rdvI ?_
  have h := (h.swap).drop
  refine letb rfl (ifb (fun _ => leti rfl (hk x _ _ ⟨hx1, hx2⟩ h)) fun _ => letb rfl (ifb (fun _ => leti rfl (hk x _ _ ⟨hx1, hx2⟩ h)) fun _ => leti rfl (hk x _ _ ⟨hx1, hx2⟩ h)))
theorem reverse_ok (h : St c w (own 3 1 A n k (D.flatMap iv) :: L)) (hn : D.length = n) (hb : n ≤ 1000000) {a b : Nat} (hab : a < b) (hbn : b ≤ n) {Q : Value → World → Prop}
    (hk : ∀ D' w', Mix a b D D' → St c w' (own 3 1 A n k (D'.flatMap iv) :: L) → Q (.tuple #[]) w') :
    CALL PG 47 [.slice A n k, .int .i64 (a : Int), .int .i64 (b : Int)] w Q := by
  refine call47 ?_
  unfold N47
  refine leti rfl (leti (y := ((b - 1 : Nat) : Int)) (by rw [wrap_i64 (by omega) (by omega)]; omega) ?_)
  refine ⟨fun m i j w' => ∃ (i' j' : Nat) (D' : List Int), i = i' ∧ j = j' ∧ m = j' - i' ∧ a ≤ i' ∧ j' < b ∧ i' ≤ b ∧ Mix a b D D' ∧ St c w' (own 3 1 A n k (D'.flatMap iv) :: L), ⟨_, a, b - 1, D, rfl, rfl, rfl, by omega, by omega, by omega, .refl _ _ _, h⟩, ?_⟩
  clear h
  rintro m _ _ w' ⟨i, j, D', rfl, rfl, rfl, hi, hj, hib, hM, h⟩
  have lD := hM.len
  refine ifd (fun hlt => ?_) fun _ => hk D' _ hM h
  have h := h.drew
  refine h.arrR .head (by omega) (by omega) ?_
  refine h.arrR .head (by omega) (by omega) ?_
  refine h.arrW .head (by omega) (by omega) fun w' h => ?_
  refine h.arrW .head (by rw [List.length_set]; omega) (by omega) fun w' h => ?_
  refine leti (y := ((i + 1 : Nat) : Int)) (by rw [wrap_i64 (by omega) (by omega)]; omega) (leti (y := ((j - 1 : Nat) : Int)) (by rw [wrap_i64 (by omega) (by omega)]; omega) ⟨_, by omega, i + 1, j - 1, swp D' i j, rfl, rfl, rfl, by omega, by omega, by omega, hM.trans (Mix.swp ⟨hi, by omega⟩ ⟨by omega, hj⟩ (by omega)), h⟩)
end
end Go.Br

/- What the code of some functions says, as the core reads it; each reading is checked by the kernel. -/
set_option linter.unusedVariables false
set_option maxRecDepth 100000
namespace Go.Br
open Go Go.Proofs

/-- slices.partitionOrdered[int] -/
def N51 (data : Option Addr) (dataN dataC : Nat) (a : Int) (b : Int) (pivot : Int) (w : World) (Q : Value → World → Prop) : Prop :=
 IDX data dataN pivot fun a18 =>
 RDI PG (loadVar 3 (Addr.add a18 (Int.toNat pivot * 1))) .i64 (w.drew) fun x19 =>
 IDX data dataN a fun a22 =>
 RDI PG (loadVar 3 (Addr.add a22 (Int.toNat a * 1))) .i64 (w.drew) fun x23 =>
 IDX data dataN a fun a24 =>
 RUNU PG (storeVar 3 (Addr.add a24 (Int.toNat a * 1)) (.int .i64 x19)) (w.drew) fun w1 =>
 IDX data dataN pivot fun a25 =>
 RUNU PG (storeVar 3 (Addr.add a25 (Int.toNat pivot * 1)) (.int .i64 x23)) w1 fun w2 =>
 LETI (IntKind.i64.wrap (a + (1 : Int))) fun i =>
 LETI (IntKind.i64.wrap (b - (1 : Int))) fun j =>
 ∃ R : Int → World → Prop,
 (∃ I : Nat → Int → World → Prop,
 (∃ m, I m i w2) ∧
 (∀ m1 (i1 : Int) (w3 : World), I m1 i1 w3 → (IFB (decide (i1 ≤ j))
 (IDX data dataN i1 fun a36 =>
 RDI PG (loadVar 3 (Addr.add a36 (Int.toNat i1 * 1))) .i64 (w3.drew) fun x37 =>
 IDX data dataN a fun a40 =>
 RDI PG (loadVar 3 (Addr.add a40 (Int.toNat a * 1))) .i64 (w3.drew) fun x41 =>
 CALL PG 49 [(.int .i64 x37), (.int .i64 x41)] (w3.drew) fun v w4 =>
 ∃ x42 : Bool, v = (.bool x42) ∧
 (IFB x42
 (LETI (IntKind.i64.wrap (i1 + (1 : Int))) fun i2 =>
 ∃ m2, m2 < m1 ∧ I m2 i2 w4)
 (R i1 w4)))
 (R i1 (w3.drew))))) ∧
 (∀ (i3 : Int) (w5 : World), R i3 w5 → (∃ R1 : Int → World → Prop,
 (∃ I1 : Nat → Int → World → Prop,
 (∃ m3, I1 m3 j w5) ∧
 (∀ m4 (j1 : Int) (w6 : World), I1 m4 j1 w6 → (IFB (decide (i3 ≤ j1))
 (IDX data dataN j1 fun a52 =>
 RDI PG (loadVar 3 (Addr.add a52 (Int.toNat j1 * 1))) .i64 (w6.drew) fun x53 =>
 IDX data dataN a fun a56 =>
 RDI PG (loadVar 3 (Addr.add a56 (Int.toNat a * 1))) .i64 (w6.drew) fun x57 =>
 CALL PG 49 [(.int .i64 x53), (.int .i64 x57)] (w6.drew) fun v1 w7 =>
 ∃ x58 : Bool, v1 = (.bool x58) ∧
 (IFB (!x58)
 (LETI (IntKind.i64.wrap (j1 - (1 : Int))) fun j2 =>
 ∃ m5, m5 < m4 ∧ I1 m5 j2 w7)
 (R1 j1 w7)))
 (R1 j1 (w6.drew))))) ∧
 (∀ (j3 : Int) (w8 : World), R1 j3 w8 → (IFB (decide (i3 > j3))
 (IDX data dataN a fun a72 =>
 RDI PG (loadVar 3 (Addr.add a72 (Int.toNat a * 1))) .i64 (w8.drew) fun x73 =>
 IDX data dataN j3 fun a76 =>
 RDI PG (loadVar 3 (Addr.add a76 (Int.toNat j3 * 1))) .i64 (w8.drew) fun x77 =>
 IDX data dataN j3 fun a78 =>
 RUNU PG (storeVar 3 (Addr.add a78 (Int.toNat j3 * 1)) (.int .i64 x73)) (w8.drew) fun w9 =>
 IDX data dataN a fun a79 =>
 RUNU PG (storeVar 3 (Addr.add a79 (Int.toNat a * 1)) (.int .i64 x77)) w9 fun w10 =>
 LETI j3 fun newpivot =>
 Q (.tuple #[(.int .i64 newpivot), (.bool true)]) w10)
 (IDX data dataN j3 fun a87 =>
 RDI PG (loadVar 3 (Addr.add a87 (Int.toNat j3 * 1))) .i64 (w8.drew) fun x88 =>
 IDX data dataN i3 fun a91 =>
 RDI PG (loadVar 3 (Addr.add a91 (Int.toNat i3 * 1))) .i64 (w8.drew) fun x92 =>
 IDX data dataN i3 fun a93 =>
 RUNU PG (storeVar 3 (Addr.add a93 (Int.toNat i3 * 1)) (.int .i64 x88)) (w8.drew) fun w11 =>
 IDX data dataN j3 fun a94 =>
 RUNU PG (storeVar 3 (Addr.add a94 (Int.toNat j3 * 1)) (.int .i64 x92)) w11 fun w12 =>
 LETI (IntKind.i64.wrap (i3 + (1 : Int))) fun i4 =>
 LETI (IntKind.i64.wrap (j3 - (1 : Int))) fun j4 =>
 ∃ R2 : Int → World → Prop,
 (∃ I2 : Nat → Int → Int → World → Prop,
 (∃ m6, I2 m6 i4 j4 w12) ∧
 (∀ m7 (i5 : Int) (j5 : Int) (w13 : World), I2 m7 i5 j5 w13 → (∃ R3 : Int → World → Prop,
 (∃ I3 : Nat → Int → World → Prop,
 (∃ m8, I3 m8 i5 w13) ∧
 (∀ m9 (i6 : Int) (w14 : World), I3 m9 i6 w14 → (IFB (decide (i6 ≤ j5))
 (IDX data dataN i6 fun a105 =>
 RDI PG (loadVar 3 (Addr.add a105 (Int.toNat i6 * 1))) .i64 (w14.drew) fun x106 =>
 IDX data dataN a fun a109 =>
 RDI PG (loadVar 3 (Addr.add a109 (Int.toNat a * 1))) .i64 (w14.drew) fun x110 =>
 CALL PG 49 [(.int .i64 x106), (.int .i64 x110)] (w14.drew) fun v2 w15 =>
 ∃ x111 : Bool, v2 = (.bool x111) ∧
 (IFB x111
 (LETI (IntKind.i64.wrap (i6 + (1 : Int))) fun i7 =>
 ∃ m10, m10 < m9 ∧ I3 m10 i7 w15)
 (R3 i6 w15)))
 (R3 i6 (w14.drew))))) ∧
 (∀ (i8 : Int) (w16 : World), R3 i8 w16 → (∃ R4 : Int → World → Prop,
 (∃ I4 : Nat → Int → World → Prop,
 (∃ m11, I4 m11 j5 w16) ∧
 (∀ m12 (j6 : Int) (w17 : World), I4 m12 j6 w17 → (IFB (decide (i8 ≤ j6))
 (IDX data dataN j6 fun a121 =>
 RDI PG (loadVar 3 (Addr.add a121 (Int.toNat j6 * 1))) .i64 (w17.drew) fun x122 =>
 IDX data dataN a fun a125 =>
 RDI PG (loadVar 3 (Addr.add a125 (Int.toNat a * 1))) .i64 (w17.drew) fun x126 =>
 CALL PG 49 [(.int .i64 x122), (.int .i64 x126)] (w17.drew) fun v3 w18 =>
 ∃ x127 : Bool, v3 = (.bool x127) ∧
 (IFB (!x127)
 (LETI (IntKind.i64.wrap (j6 - (1 : Int))) fun j7 =>
 ∃ m13, m13 < m12 ∧ I4 m13 j7 w18)
 (R4 j6 w18)))
 (R4 j6 (w17.drew))))) ∧
 (∀ (j8 : Int) (w19 : World), R4 j8 w19 → (IFB (decide (i8 > j8))
 (R2 j8 w19)
 (IDX data dataN j8 fun a141 =>
 RDI PG (loadVar 3 (Addr.add a141 (Int.toNat j8 * 1))) .i64 (w19.drew) fun x142 =>
 IDX data dataN i8 fun a145 =>
 RDI PG (loadVar 3 (Addr.add a145 (Int.toNat i8 * 1))) .i64 (w19.drew) fun x146 =>
 IDX data dataN i8 fun a147 =>
 RUNU PG (storeVar 3 (Addr.add a147 (Int.toNat i8 * 1)) (.int .i64 x142)) (w19.drew) fun w20 =>
 IDX data dataN j8 fun a148 =>
 RUNU PG (storeVar 3 (Addr.add a148 (Int.toNat j8 * 1)) (.int .i64 x146)) w20 fun w21 =>
 LETI (IntKind.i64.wrap (i8 + (1 : Int))) fun i9 =>
 LETI (IntKind.i64.wrap (j8 - (1 : Int))) fun j9 =>
 ∃ m14, m14 < m7 ∧ I2 m14 i9 j9 w21)))))))) ∧
 (∀ (j10 : Int) (w22 : World), R2 j10 w22 → (IDX data dataN a fun a159 =>
 RDI PG (loadVar 3 (Addr.add a159 (Int.toNat a * 1))) .i64 (w22.drew) fun x160 =>
 IDX data dataN j10 fun a163 =>
 RDI PG (loadVar 3 (Addr.add a163 (Int.toNat j10 * 1))) .i64 (w22.drew) fun x164 =>
 IDX data dataN j10 fun a165 =>
 RUNU PG (storeVar 3 (Addr.add a165 (Int.toNat j10 * 1)) (.int .i64 x160)) (w22.drew) fun w23 =>
 IDX data dataN a fun a166 =>
 RUNU PG (storeVar 3 (Addr.add a166 (Int.toNat a * 1)) (.int .i64 x164)) w23 fun w24 =>
 LETI j10 fun newpivot1 =>
 Q (.tuple #[(.int .i64 newpivot1), (.bool false)]) w24)))))))
theorem eq51 : ∀ (data : Option Addr) (dataN dataC : Nat) (a : Int) (b : Int) (pivot : Int) (w : World) (Q : Value → World → Prop), vcF PG TB Tryd.f51 (.s .nil (.s .nil (.s .nil (.cut [(10, 3)] (.u (.loop [(10, 3)] .nil)) (.cut [(11, 3)] (.u (.loop [(11, 3)] .nil)) (.s .nil (.s .nil (.s .nil (.s .nil (.cut [(11, 3)] (.u (.loop [(10, 3), (11, 3)] (.u (.cut [(10, 3)] (.u (.loop [(10, 3)] .nil)) (.cut [(11, 3)] (.u (.loop [(11, 3)] .nil)) .nil))))) .nil)))))))))) [(.slice data dataN dataC), (.int .i64 a), (.int .i64 b), (.int .i64 pivot)] w Q = N51 data dataN dataC a b pivot w Q := by intros; kernel_rfl
theorem call51 {data : Option Addr} {dataN dataC : Nat} {a : Int} {b : Int} {pivot : Int} {w : World} {Q : Value → World → Prop} (hN : N51 data dataN dataC a b pivot w Q) : CALL PG 51 [(.slice data dataN dataC), (.int .i64 a), (.int .i64 b), (.int .i64 pivot)] w Q := calls_vc tabOk Tryd.func51 (by rw [eq51]; exact hN)

end Go.Br

/- slices.Sort of numbers: a range is parted by its pivot. -/
set_option linter.unusedVariables false
set_option linter.unusedSimpArgs false
set_option linter.unnecessarySimpa false
namespace Go.Br
open Go
attribute [local irreducible] Addr.add RD RDS RUN RUNU NILC LETB CALL CALLX CALLV

/-- While a range is parted: what lies ahead of i is less than the pivot, what lies behind j isn't. -/
structure PI (a b : Nat) (D : List Int) (pv : Int) (i j : Nat) (D' : List Int) : Prop where
  mix : Mix a b D D'
  pa : at0 D' a = pv
  ai : a < i
  ij : i ≤ j + 1
  jb : j < b
  lo : ∀ t, a < t → t < i → at0 D' t < pv
  hi : ∀ t, j < t → t < b → pv ≤ at0 D' t
theorem PI.up {a b : Nat} {D : List Int} {pv : Int} {i j : Nat} {D' : List Int} (h : PI a b D pv i j D') (hij : i ≤ j) (hx : at0 D' i < pv) : PI a b D pv (i + 1) j D' :=
  ⟨h.mix, h.pa, by have := h.ai; omega, by omega, h.jb, fun t t1 t2 => by
    by_cases e : t = i
    · subst e; exact hx
    · exact h.lo t t1 (by omega), h.hi⟩
theorem PI.down {a b : Nat} {D : List Int} {pv : Int} {i j : Nat} {D' : List Int} (h : PI a b D pv i j D') (hij : i ≤ j) (hx : pv ≤ at0 D' j) : PI a b D pv i (j - 1) D' :=
  ⟨h.mix, h.pa, h.ai, by have := h.ai; omega, by have := h.jb; omega, h.lo, fun t t1 t2 => by
    by_cases e : t = j
    · subst e; exact hx
    · exact h.hi t (by have := h.ai; omega) t2⟩
theorem PI.swap {a b : Nat} {D : List Int} {pv : Int} {i j : Nat} {D' : List Int} (h : PI a b D pv i j D') (hij : i ≤ j) (h1 : pv ≤ at0 D' i) (h2 : at0 D' j < pv) (hb : b ≤ D'.length) : PI a b D pv (i + 1) (j - 1) (swp D' i j) ∧ i < j := by
  have hlt : i < j := by
    rcases Nat.lt_or_ge i j with h3 | h3
    · exact h3
    · have : i = j := by omega
      subst this; omega
  have hai := h.ai
  have hjb := h.jb
  have sa := fun t => swp_at (D := D') (i := i) (j := j) (by omega) (by omega) t
  refine ⟨⟨h.mix.trans (Mix.swp ⟨by omega, by omega⟩ ⟨by omega, hjb⟩ hb), ?_, by omega, by omega, by omega, fun t t1 t2 => ?_, fun t t1 t2 => ?_⟩, hlt⟩
  · rw [sa, if_neg (by omega), if_neg (by omega)]; exact h.pa
  · rw [sa, if_neg (by omega)]
    split
    · exact h2
    · exact h.lo t t1 (by omega)
  · rw [sa]
    split
    · exact h1
    · rw [if_neg (by omega)]
      exact h.hi t (by omega) t2
section
variable {c : Ctx} {w : World} {L R : List SA} {A : Option Addr} {n k : Nat} {D : List Int} {a b i j : Nat} {pv : Int} {D' : List Int}
theorem scanU {REST : Int → World → Prop} (h : St c w (own 3 1 A n k (D'.flatMap iv) :: L)) (hn : D'.length = n) (hbn : b ≤ n) (hb : n ≤ 1000000) (hP : PI a b D pv i j D')
    (hr : ∀ (i' : Nat) w', PI a b D pv i' j D' → (i' ≤ j → pv ≤ at0 D' i') → St c w' (own 3 1 A n k (D'.flatMap iv) :: L) → REST (i' : Int) w') :
    ∃ R : Int → World → Prop, (∃ I : Nat → Int → World → Prop, (∃ m, I m (i : Int) w) ∧ (∀ m1 (i1 : Int) (w3 : World), I m1 i1 w3 → (IFB (decide (i1 ≤ (j : Int)))
      (IDX A n i1 fun a36 => RDI PG (loadVar 3 (Addr.add a36 (Int.toNat i1 * 1))) .i64 (w3.drew) fun x37 => IDX A n (a : Int) fun a40 => RDI PG (loadVar 3 (Addr.add a40 (Int.toNat (a : Int) * 1))) .i64 (w3.drew) fun x41 =>
        CALL PG 49 [(.int .i64 x37), (.int .i64 x41)] (w3.drew) fun v w4 => ∃ x42 : Bool, v = (.bool x42) ∧ (IFB x42 (LETI (IntKind.i64.wrap (i1 + (1 : Int))) fun i2 => ∃ m2, m2 < m1 ∧ I m2 i2 w4) (R i1 w4)))
      (R i1 (w3.drew))))) ∧ (∀ (i3 : Int) (w5 : World), R i3 w5 → REST i3 w5) := by
  refine ⟨fun x w' => ∃ i' : Nat, x = i' ∧ PI a b D pv i' j D' ∧ (i' ≤ j → pv ≤ at0 D' i') ∧ St c w' (own 3 1 A n k (D'.flatMap iv) :: L), ⟨fun m x w' => ∃ i' : Nat, x = i' ∧ m = b - i' ∧ PI a b D pv i' j D' ∧ St c w' (own 3 1 A n k (D'.flatMap iv) :: L), ⟨_, i, rfl, rfl, hP, h⟩, ?_⟩, ?_⟩
  · clear h hP
    rintro m _ w' ⟨i, rfl, rfl, hP, h⟩
    have hj := hP.jb
    have ha := hP.ai
    have hij := hP.ij
    have h := h.drew
    refine ifd (fun hle => ?_) fun hgt => ⟨i, rfl, hP, fun e => absurd e (by omega), h⟩
    refine h.arrR .head hn (by omega) ?_
    refine h.arrR .head hn (by omega) ?_
    rw [hP.pa]
    refine less_ok ?_
    (repeat (first | apply Exists.intro (α := Int) | apply Exists.intro (α := Bool) | apply Exists.intro (α := ByteArray) | (apply Exists.intro (α := Option Addr); apply Exists.intro (α := Nat); apply Exists.intro (α := Nat)) | apply Exists.intro (α := Option Addr) | apply Exists.intro (α := Value)))
    refine ⟨rfl, ?_⟩
    exact ifd (fun hx => leti (y := ((i + 1 : Nat) : Int)) (by rw [wrap_i64 (by omega) (by omega)]; omega) ⟨_, by omega, i + 1, rfl, rfl, hP.up (by omega) hx, h⟩) fun hx => ⟨i, rfl, hP, fun _ => by omega, h⟩
  · rintro _ w' ⟨i', rfl, h1, h2, h3⟩
    exact hr i' w' h1 h2 h3
theorem scanD {REST : Int → World → Prop} (h : St c w (own 3 1 A n k (D'.flatMap iv) :: L)) (hn : D'.length = n) (hbn : b ≤ n) (hb : n ≤ 1000000) (hP : PI a b D pv i j D')
    (hr : ∀ (j' : Nat) w', PI a b D pv i j' D' → j' ≤ j → (i ≤ j' → at0 D' j' < pv) → St c w' (own 3 1 A n k (D'.flatMap iv) :: L) → REST (j' : Int) w') :
    ∃ R : Int → World → Prop, (∃ I : Nat → Int → World → Prop, (∃ m, I m (j : Int) w) ∧ (∀ m1 (j1 : Int) (w3 : World), I m1 j1 w3 → (IFB (decide ((i : Int) ≤ j1))
      (IDX A n j1 fun a36 => RDI PG (loadVar 3 (Addr.add a36 (Int.toNat j1 * 1))) .i64 (w3.drew) fun x37 => IDX A n (a : Int) fun a40 => RDI PG (loadVar 3 (Addr.add a40 (Int.toNat (a : Int) * 1))) .i64 (w3.drew) fun x41 =>
        CALL PG 49 [(.int .i64 x37), (.int .i64 x41)] (w3.drew) fun v w4 => ∃ x42 : Bool, v = (.bool x42) ∧ (IFB (!x42) (LETI (IntKind.i64.wrap (j1 - (1 : Int))) fun j2 => ∃ m2, m2 < m1 ∧ I m2 j2 w4) (R j1 w4)))
      (R j1 (w3.drew))))) ∧ (∀ (j3 : Int) (w5 : World), R j3 w5 → REST j3 w5) := by
  refine ⟨fun x w' => ∃ j' : Nat, x = j' ∧ PI a b D pv i j' D' ∧ j' ≤ j ∧ (i ≤ j' → at0 D' j' < pv) ∧ St c w' (own 3 1 A n k (D'.flatMap iv) :: L), ⟨fun m x w' => ∃ j' : Nat, x = j' ∧ m = j' ∧ PI a b D pv i j' D' ∧ j' ≤ j ∧ St c w' (own 3 1 A n k (D'.flatMap iv) :: L), ⟨_, j, rfl, rfl, hP, Nat.le_refl _, h⟩, ?_⟩, ?_⟩
  · clear h
    rintro m _ w' ⟨j', rfl, rfl, hP, hjj, h⟩
    have hj := hP.jb
    have ha := hP.ai
    have h := h.drew
    refine ifd (fun hle => ?_) fun hgt => ⟨m, rfl, hP, hjj, fun e => absurd e (by omega), h⟩
    refine h.arrR .head hn (by omega) ?_
    refine h.arrR .head hn (by omega) ?_
    rw [hP.pa]
    refine less_ok ?_
    (repeat (first | apply Exists.intro (α := Int) | apply Exists.intro (α := Bool) | apply Exists.intro (α := ByteArray) | (apply Exists.intro (α := Option Addr); apply Exists.intro (α := Nat); apply Exists.intro (α := Nat)) | apply Exists.intro (α := Option Addr) | apply Exists.intro (α := Value)))
    refine ⟨rfl, ?_⟩
    refine ifnot (fun hx => ?_) fun hx => ⟨m, rfl, hP, hjj, fun _ => of_decide_eq_true hx, h⟩
    have hx := of_decide_eq_false hx
    exact leti (y := ((m - 1 : Nat) : Int)) (by rw [wrap_i64 (by omega) (by omega)]; omega) ⟨_, by omega, m - 1, rfl, rfl, hP.down (by omega) (by omega), by omega, h⟩
  · rintro _ w' ⟨j', rfl, h1, h2, h3, h4⟩
    exact hr j' w' h1 h2 h3 h4
theorem PI.done (h : PI a b D pv i j D') (hgt : j < i) (hb : b ≤ D'.length) : Mix a b D (swp D' j a) ∧ a ≤ j ∧ j < b ∧ (∀ t, a ≤ t → t < j → at0 (swp D' j a) t < at0 (swp D' j a) j) ∧ ∀ t, j < t → t < b → at0 (swp D' j a) j ≤ at0 (swp D' j a) t := by
  have hai := h.ai
  have hij := h.ij
  have hjb := h.jb
  have sa := fun t => swp_at (D := D') (i := j) (j := a) (by omega) (by omega) t
  have e : at0 (swp D' j a) j = pv := by
    rw [sa]
    split
    · rename_i e; rw [e]; exact h.pa
    · rw [if_pos rfl]; exact h.pa
  refine ⟨h.mix.trans (Mix.swp ⟨by omega, hjb⟩ ⟨by omega, by omega⟩ hb), by omega, hjb, fun t t1 t2 => ?_, fun t t1 t2 => ?_⟩
  · rw [e, sa]
    split
    · exact h.lo j (by omega) (by omega)
    · rw [if_neg (by omega)]
      exact h.lo t (by omega) (by omega)
  · rw [e, sa, if_neg (by omega), if_neg (by omega)]
    exact h.hi t t1 t2
theorem part_ok (h : St c w (own 3 1 A n k (D.flatMap iv) :: L)) (hn : D.length = n) (hb : n ≤ 1000000) {p : Nat} (hp : a ≤ p ∧ p < b) (hbn : b ≤ n) {Q : Value → World → Prop}
    (hk : ∀ (D' : List Int) (m : Nat) (bb : Bool) w', Mix a b D D' → a ≤ m → m < b → (∀ t, a ≤ t → t < m → at0 D' t < at0 D' m) → (∀ t, m < t → t < b → at0 D' m ≤ at0 D' t) → St c w' (own 3 1 A n k (D'.flatMap iv) :: L) → Q (.tuple #[.int .i64 (m : Int), .bool bb]) w') :
    CALL PG 51 [.slice A n k, .int .i64 (a : Int), .int .i64 (b : Int), .int .i64 (p : Int)] w Q := by
  refine call51 ?_
  unfold N51
  have h := h.drew
  refine h.arrR .head hn (by omega) ?_
  refine h.arrR .head hn (by omega) ?_
  refine h.arrW .head hn (by omega) fun w' h => ?_
  refine h.arrW .head (by rw [List.length_set]; exact hn) (by omega) fun w' h => ?_
  have h : St c w' (own 3 1 A n k ((swp D a p).flatMap iv) :: L) := h
  have sa := fun t => swp_at (D := D) (i := a) (j := p) (by omega) (by omega) t
  have hP : PI a b D (at0 D p) (a + 1) (b - 1) (swp D a p) := by
    refine ⟨Mix.swp ⟨Nat.le_refl _, by omega⟩ hp (by omega), ?_, by omega, by omega, by omega, fun t t1 t2 => by omega, fun t t1 t2 => by omega⟩
    rw [sa]
    split
    · rename_i e; rw [← e]
    · rw [if_pos rfl]
  generalize at0 D p = pv at *
  generalize swp D a p = D1 at *
  have lD : ∀ {i j : Nat} {D' : List Int}, PI a b D pv i j D' → D'.length = n := fun h => by rw [h.mix.len, hn]
  refine leti (y := ((a + 1 : Nat) : Int)) (by rw [wrap_i64 (by omega) (by omega)]; omega) (leti (y := ((b - 1 : Nat) : Int)) (by rw [wrap_i64 (by omega) (by omega)]; omega) ?_)
  have fin : ∀ {i j : Nat} {D' : List Int} {w' : World} {bb : Bool}, PI a b D pv i j D' → j < i → St c w' (own 3 1 A n k (D'.flatMap iv) :: L) →
      IDX A n (a : Int) fun a1 => RDI PG (loadVar 3 (Addr.add a1 (Int.toNat (a : Int) * 1))) .i64 w' fun x73 => IDX A n (j : Int) fun a2 => RDI PG (loadVar 3 (Addr.add a2 (Int.toNat (j : Int) * 1))) .i64 w' fun x77 =>
        IDX A n (j : Int) fun a3 => RUNU PG (storeVar 3 (Addr.add a3 (Int.toNat (j : Int) * 1)) (.int .i64 x73)) w' fun w9 => IDX A n (a : Int) fun a4 => RUNU PG (storeVar 3 (Addr.add a4 (Int.toNat (a : Int) * 1)) (.int .i64 x77)) w9 fun w10 =>
          LETI (j : Int) fun np => Q (.tuple #[.int .i64 np, .bool bb]) w10 := fun {i j D' w' bb} hP hgt h => by
    have l := lD hP
    have hj := hP.jb
    obtain ⟨f1, f2, f3, f4, f5⟩ := hP.done hgt (by omega)
    refine h.arrR .head l (by omega) ?_
    refine h.arrR .head l (by omega) ?_
    refine h.arrW .head l (by omega) fun w' h => ?_
    refine h.arrW .head (by rw [List.length_set]; exact l) (by omega) fun w' h => ?_
    exact leti rfl (hk _ j bb _ f1 f2 f3 f4 f5 h)
  refine scanU h (lD hP) hbn hb hP fun i w' hP hi h => ?_
  refine scanD h (lD hP) hbn hb hP fun j w' hP hjj hj h => ?_
  have h := h.drew
  refine ifd (fun hgt => fin hP (by omega) h) fun hle => ?_
  obtain ⟨hP2, hij⟩ := hP.swap (by omega) (hi (by omega)) (hj (by omega)) (by rw [lD hP]; omega)
  have hjb := hP.jb
  have l := lD hP
  refine h.arrR .head l (by omega) ?_
  refine h.arrR .head l (by omega) ?_
  refine h.arrW .head l (by omega) fun w' h => ?_
  refine h.arrW .head (by rw [List.length_set]; exact l) (by omega) fun w' h => ?_
  have h : St c w' (own 3 1 A n k ((swp D1 i j).flatMap iv) :: L) := h
  refine leti (y := ((i + 1 : Nat) : Int)) (by rw [wrap_i64 (by omega) (by omega)]; omega) (leti (y := ((j - 1 : Nat) : Int)) (by rw [wrap_i64 (by omega) (by omega)]; omega) ?_)
  refine ⟨fun x w' => ∃ (i j : Nat) (D' : List Int), x = j ∧ PI a b D pv i j D' ∧ j < i ∧ St c w' (own 3 1 A n k (D'.flatMap iv) :: L), ⟨fun m x y w' => ∃ (i j : Nat) (D' : List Int), x = i ∧ y = j ∧ m = j ∧ PI a b D pv i j D' ∧ St c w' (own 3 1 A n k (D'.flatMap iv) :: L), ⟨_, i + 1, j - 1, _, rfl, rfl, rfl, hP2, h⟩, ?_⟩, ?_⟩
  · clear h hP hP2 hi hj hij hle hjj hjb l
    rintro m _ _ w' ⟨i, j, D', rfl, rfl, rfl, hP, h⟩
    refine scanU h (lD hP) hbn hb hP fun i w' hP hi h => ?_
    refine scanD h (lD hP) hbn hb hP fun j w' hP hjj hj h => ?_
    refine ifd (fun hgt => ⟨i, j, D', rfl, hP, by omega, h⟩) fun hle => ?_
    obtain ⟨hP2, hij⟩ := hP.swap (by omega) (hi (by omega)) (hj (by omega)) (by rw [lD hP]; omega)
    have hjb := hP.jb
    have l := lD hP
    have h := h.drew
    refine h.arrR .head l (by omega) ?_
    refine h.arrR .head l (by omega) ?_
    refine h.arrW .head l (by omega) fun w' h => ?_
    refine h.arrW .head (by rw [List.length_set]; exact l) (by omega) fun w' h => ?_
    exact leti (y := ((i + 1 : Nat) : Int)) (by rw [wrap_i64 (by omega) (by omega)]; omega) (leti (y := ((j - 1 : Nat) : Int)) (by rw [wrap_i64 (by omega) (by omega)]; omega) ⟨j - 1, by omega, i + 1, j - 1, _, rfl, rfl, rfl, hP2, h⟩)
  · rintro _ w' ⟨i, j, D', rfl, hP, hgt, h⟩
    exact fin hP hgt h.drew
end
end Go.Br

/- What the code of some functions says, as the core reads it; each reading is checked by the kernel. -/
set_option linter.unusedVariables false
set_option maxRecDepth 100000
namespace Go.Br
open Go Go.Proofs

/-- slices.partitionEqualOrdered[int] -/
def N50 (data : Option Addr) (dataN dataC : Nat) (a : Int) (b : Int) (pivot : Int) (w : World) (Q : Value → World → Prop) : Prop :=
 IDX data dataN pivot fun a17 =>
 RDI PG (loadVar 3 (Addr.add a17 (Int.toNat pivot * 1))) .i64 (w.drew) fun x18 =>
 IDX data dataN a fun a21 =>
 RDI PG (loadVar 3 (Addr.add a21 (Int.toNat a * 1))) .i64 (w.drew) fun x22 =>
 IDX data dataN a fun a23 =>
 RUNU PG (storeVar 3 (Addr.add a23 (Int.toNat a * 1)) (.int .i64 x18)) (w.drew) fun w1 =>
 IDX data dataN pivot fun a24 =>
 RUNU PG (storeVar 3 (Addr.add a24 (Int.toNat pivot * 1)) (.int .i64 x22)) w1 fun w2 =>
 LETI (IntKind.i64.wrap (a + (1 : Int))) fun i =>
 LETI (IntKind.i64.wrap (b - (1 : Int))) fun j =>
 ∃ I : Nat → Int → Int → World → Prop,
 (∃ m, I m i j w2) ∧
 (∀ m1 (i1 : Int) (j1 : Int) (w3 : World), I m1 i1 j1 w3 → (∃ R : Int → World → Prop,
 (∃ I1 : Nat → Int → World → Prop,
 (∃ m2, I1 m2 i1 w3) ∧
 (∀ m3 (i2 : Int) (w4 : World), I1 m3 i2 w4 → (IFB (decide (i2 ≤ j1))
 (IDX data dataN a fun a35 =>
 RDI PG (loadVar 3 (Addr.add a35 (Int.toNat a * 1))) .i64 (w4.drew) fun x36 =>
 IDX data dataN i2 fun a39 =>
 RDI PG (loadVar 3 (Addr.add a39 (Int.toNat i2 * 1))) .i64 (w4.drew) fun x40 =>
 CALL PG 49 [(.int .i64 x36), (.int .i64 x40)] (w4.drew) fun v w5 =>
 ∃ x41 : Bool, v = (.bool x41) ∧
 (IFB (!x41)
 (LETI (IntKind.i64.wrap (i2 + (1 : Int))) fun i3 =>
 ∃ m4, m4 < m3 ∧ I1 m4 i3 w5)
 (R i2 w5)))
 (R i2 (w4.drew))))) ∧
 (∀ (i4 : Int) (w6 : World), R i4 w6 → (∃ R1 : Int → World → Prop,
 (∃ I2 : Nat → Int → World → Prop,
 (∃ m5, I2 m5 j1 w6) ∧
 (∀ m6 (j2 : Int) (w7 : World), I2 m6 j2 w7 → (IFB (decide (i4 ≤ j2))
 (IDX data dataN a fun a52 =>
 RDI PG (loadVar 3 (Addr.add a52 (Int.toNat a * 1))) .i64 (w7.drew) fun x53 =>
 IDX data dataN j2 fun a56 =>
 RDI PG (loadVar 3 (Addr.add a56 (Int.toNat j2 * 1))) .i64 (w7.drew) fun x57 =>
 CALL PG 49 [(.int .i64 x53), (.int .i64 x57)] (w7.drew) fun v1 w8 =>
 ∃ x58 : Bool, v1 = (.bool x58) ∧
 (IFB x58
 (LETI (IntKind.i64.wrap (j2 - (1 : Int))) fun j3 =>
 ∃ m7, m7 < m6 ∧ I2 m7 j3 w8)
 (R1 j2 w8)))
 (R1 j2 (w7.drew))))) ∧
 (∀ (j4 : Int) (w9 : World), R1 j4 w9 → (IFB (decide (i4 > j4))
 (LETI i4 fun newpivot =>
 Q (.int .i64 newpivot) w9)
 (IDX data dataN j4 fun a71 =>
 RDI PG (loadVar 3 (Addr.add a71 (Int.toNat j4 * 1))) .i64 (w9.drew) fun x72 =>
 IDX data dataN i4 fun a75 =>
 RDI PG (loadVar 3 (Addr.add a75 (Int.toNat i4 * 1))) .i64 (w9.drew) fun x76 =>
 IDX data dataN i4 fun a77 =>
 RUNU PG (storeVar 3 (Addr.add a77 (Int.toNat i4 * 1)) (.int .i64 x72)) (w9.drew) fun w10 =>
 IDX data dataN j4 fun a78 =>
 RUNU PG (storeVar 3 (Addr.add a78 (Int.toNat j4 * 1)) (.int .i64 x76)) w10 fun w11 =>
 LETI (IntKind.i64.wrap (i4 + (1 : Int))) fun i5 =>
 LETI (IntKind.i64.wrap (j4 - (1 : Int))) fun j5 =>
 ∃ m8, m8 < m1 ∧ I m8 i5 j5 w11)))))))
theorem eq50 : ∀ (data : Option Addr) (dataN dataC : Nat) (a : Int) (b : Int) (pivot : Int) (w : World) (Q : Value → World → Prop), vcF PG TB Tryd.f50 (.s .nil (.s .nil (.s .nil (.s (.u (.loop [(9, 3), (10, 3)] (.u (.cut [(9, 3)] (.u (.loop [(9, 3)] .nil)) (.cut [(10, 3)] (.u (.loop [(10, 3)] .nil)) .nil))))) .nil)))) [(.slice data dataN dataC), (.int .i64 a), (.int .i64 b), (.int .i64 pivot)] w Q = N50 data dataN dataC a b pivot w Q := by intros; kernel_rfl
theorem call50 {data : Option Addr} {dataN dataC : Nat} {a : Int} {b : Int} {pivot : Int} {w : World} {Q : Value → World → Prop} (hN : N50 data dataN dataC a b pivot w Q) : CALL PG 50 [(.slice data dataN dataC), (.int .i64 a), (.int .i64 b), (.int .i64 pivot)] w Q := calls_vc tabOk Tryd.func50 (by rw [eq50]; exact hN)

end Go.Br

/- slices.Sort of numbers: those that equal the pivot are parted from those behind. -/
set_option linter.unusedVariables false
set_option linter.unusedSimpArgs false
set_option linter.unnecessarySimpa false
namespace Go.Br
open Go
attribute [local irreducible] Addr.add RD RDS RUN RUNU NILC LETB CALL CALLX CALLV

structure PE (a b : Nat) (D : List Int) (pv : Int) (i j : Nat) (D' : List Int) : Prop where
  mix : Mix a b D D'
  pa : at0 D' a = pv
  ai : a < i
  ij : i ≤ j + 1
  jb : j < b
  lo : ∀ t, a < t → t < i → at0 D' t ≤ pv
  hi : ∀ t, j < t → t < b → pv < at0 D' t
theorem PE.up {a b : Nat} {D : List Int} {pv : Int} {i j : Nat} {D' : List Int} (h : PE a b D pv i j D') (hij : i ≤ j) (hx : at0 D' i ≤ pv) : PE a b D pv (i + 1) j D' :=
  ⟨h.mix, h.pa, by have := h.ai; omega, by omega, h.jb, fun t t1 t2 => by
    by_cases e : t = i
    · subst e; exact hx
    · exact h.lo t t1 (by omega), h.hi⟩
theorem PE.down {a b : Nat} {D : List Int} {pv : Int} {i j : Nat} {D' : List Int} (h : PE a b D pv i j D') (hij : i ≤ j) (hx : pv < at0 D' j) : PE a b D pv i (j - 1) D' :=
  ⟨h.mix, h.pa, h.ai, by have := h.ai; omega, by have := h.jb; omega, h.lo, fun t t1 t2 => by
    by_cases e : t = j
    · subst e; exact hx
    · exact h.hi t (by have := h.ai; omega) t2⟩
theorem PE.swap {a b : Nat} {D : List Int} {pv : Int} {i j : Nat} {D' : List Int} (h : PE a b D pv i j D') (hij : i ≤ j) (h1 : pv < at0 D' i) (h2 : at0 D' j ≤ pv) (hb : b ≤ D'.length) : PE a b D pv (i + 1) (j - 1) (swp D' i j) ∧ i < j := by
  have hlt : i < j := by
    rcases Nat.lt_or_ge i j with h3 | h3
    · exact h3
    · have : i = j := by omega
      subst this; omega
  have hai := h.ai
  have hjb := h.jb
  have sa := fun t => swp_at (D := D') (i := i) (j := j) (by omega) (by omega) t
  refine ⟨⟨h.mix.trans (Mix.swp ⟨by omega, by omega⟩ ⟨by omega, hjb⟩ hb), ?_, by omega, by omega, by omega, fun t t1 t2 => ?_, fun t t1 t2 => ?_⟩, hlt⟩
  · rw [sa, if_neg (by omega), if_neg (by omega)]; exact h.pa
  · rw [sa, if_neg (by omega)]
    split
    · exact h2
    · exact h.lo t t1 (by omega)
  · rw [sa]
    split
    · exact h1
    · rw [if_neg (by omega)]
      exact h.hi t (by omega) t2
section
variable {c : Ctx} {w : World} {L R : List SA} {A : Option Addr} {n k : Nat} {D : List Int} {a b i j : Nat} {pv : Int} {D' : List Int}
theorem parteq_ok (h : St c w (own 3 1 A n k (D.flatMap iv) :: L)) (hn : D.length = n) (hb : n ≤ 1000000) {p : Nat} (hp : a ≤ p ∧ p < b) (hbn : b ≤ n) {Q : Value → World → Prop}
    (hk : ∀ (D' : List Int) (m : Nat) w', Mix a b D D' → a < m → m ≤ b → (∀ t, a ≤ t → t < m → at0 D' t ≤ at0 D p) → (∀ t, m ≤ t → t < b → at0 D p < at0 D' t) → St c w' (own 3 1 A n k (D'.flatMap iv) :: L) → Q (.int .i64 (m : Int)) w') :
    CALL PG 50 [.slice A n k, .int .i64 (a : Int), .int .i64 (b : Int), .int .i64 (p : Int)] w Q := by
  refine call50 ?_
  unfold N50
  have h := h.drew
  refine h.arrR .head hn (by omega) ?_
  refine h.arrR .head hn (by omega) ?_
  refine h.arrW .head hn (by omega) fun w' h => ?_
  refine h.arrW .head (by rw [List.length_set]; exact hn) (by omega) fun w' h => ?_
  have h : St c w' (own 3 1 A n k ((swp D a p).flatMap iv) :: L) := h
  have sa := fun t => swp_at (D := D) (i := a) (j := p) (by omega) (by omega) t
  have hP : PE a b D (at0 D p) (a + 1) (b - 1) (swp D a p) := by
    refine ⟨Mix.swp ⟨Nat.le_refl _, by omega⟩ hp (by omega), ?_, by omega, by omega, by omega, fun t t1 t2 => by omega, fun t t1 t2 => by omega⟩
    rw [sa]
    split
    · rename_i e; rw [← e]
    · rw [if_pos rfl]
  generalize at0 D p = pv at *
  generalize swp D a p = D1 at *
  have lD : ∀ {i j : Nat} {D' : List Int}, PE a b D pv i j D' → D'.length = n := fun h => by rw [h.mix.len, hn]
  refine leti (y := ((a + 1 : Nat) : Int)) (by rw [wrap_i64 (by omega) (by omega)]; omega) (leti (y := ((b - 1 : Nat) : Int)) (by rw [wrap_i64 (by omega) (by omega)]; omega) ?_)
  refine ⟨fun m x y w' => ∃ (i j : Nat) (D' : List Int), x = i ∧ y = j ∧ m = j ∧ PE a b D pv i j D' ∧ St c w' (own 3 1 A n k (D'.flatMap iv) :: L), ⟨_, a + 1, b - 1, _, rfl, rfl, rfl, hP, h⟩, ?_⟩
  clear h hP
  rintro m _ _ w' ⟨i, j, D', rfl, rfl, rfl, hP, h⟩
  have l := lD hP
  refine ⟨fun x w' => ∃ i' : Nat, x = i' ∧ PE a b D pv i' m D' ∧ (i' ≤ m → pv < at0 D' i') ∧ St c w' (own 3 1 A n k (D'.flatMap iv) :: L), ⟨fun q x w' => ∃ i' : Nat, x = i' ∧ q = b - i' ∧ PE a b D pv i' m D' ∧ St c w' (own 3 1 A n k (D'.flatMap iv) :: L), ⟨_, i, rfl, rfl, hP, h⟩, ?_⟩, ?_⟩
  · clear h hP
    rintro q _ w' ⟨i, rfl, rfl, hP, h⟩
    have hj := hP.jb
    have ha := hP.ai
    have hij := hP.ij
    have h := h.drew
    refine ifd (fun hle => ?_) fun hgt => ⟨i, rfl, hP, fun e => absurd e (by omega), h⟩
    refine h.arrR .head l (by omega) ?_
    refine h.arrR .head l (by omega) ?_
    rw [hP.pa]
    refine less_ok ?_
    (repeat (first | apply Exists.intro (α := Int) | apply Exists.intro (α := Bool) | apply Exists.intro (α := ByteArray) | (apply Exists.intro (α := Option Addr); apply Exists.intro (α := Nat); apply Exists.intro (α := Nat)) | apply Exists.intro (α := Option Addr) | apply Exists.intro (α := Value)))
    refine ⟨rfl, ?_⟩
    refine ifnot (fun hx => ?_) fun hx => ⟨i, rfl, hP, fun _ => of_decide_eq_true hx, h⟩
    have hx := of_decide_eq_false hx
    exact leti (y := ((i + 1 : Nat) : Int)) (by rw [wrap_i64 (by omega) (by omega)]; omega) ⟨_, by omega, i + 1, rfl, rfl, hP.up (by omega) (by omega), h⟩
  clear h hP
  rintro _ w' ⟨i, rfl, hP, hi, h⟩
  refine ⟨fun x w' => ∃ j' : Nat, x = j' ∧ PE a b D pv i j' D' ∧ j' ≤ m ∧ (i ≤ j' → at0 D' j' ≤ pv) ∧ St c w' (own 3 1 A n k (D'.flatMap iv) :: L), ⟨fun q x w' => ∃ j' : Nat, x = j' ∧ q = j' ∧ PE a b D pv i j' D' ∧ j' ≤ m ∧ St c w' (own 3 1 A n k (D'.flatMap iv) :: L), ⟨_, m, rfl, rfl, hP, Nat.le_refl _, h⟩, ?_⟩, ?_⟩
  · clear h hP
    rintro q _ w' ⟨j', rfl, rfl, hP, hjj, h⟩
    have hj := hP.jb
    have ha := hP.ai
    have h := h.drew
    refine ifd (fun hle => ?_) fun hgt => ⟨q, rfl, hP, hjj, fun e => absurd e (by omega), h⟩
    refine h.arrR .head l (by omega) ?_
    refine h.arrR .head l (by omega) ?_
    rw [hP.pa]
    refine less_ok ?_
    (repeat (first | apply Exists.intro (α := Int) | apply Exists.intro (α := Bool) | apply Exists.intro (α := ByteArray) | (apply Exists.intro (α := Option Addr); apply Exists.intro (α := Nat); apply Exists.intro (α := Nat)) | apply Exists.intro (α := Option Addr) | apply Exists.intro (α := Value)))
    refine ⟨rfl, ?_⟩
    exact ifd (fun hx => leti (y := ((q - 1 : Nat) : Int)) (by rw [wrap_i64 (by omega) (by omega)]; omega) ⟨_, by omega, q - 1, rfl, rfl, hP.down (by omega) hx, by omega, h⟩) fun hx => ⟨q, rfl, hP, hjj, fun _ => by omega, h⟩
  clear h hP
  rintro _ w' ⟨j, rfl, hP, hjm, hj, h⟩
  have hjb := hP.jb
  have hai := hP.ai
  have hij := hP.ij
  refine ifd (fun hgt => leti rfl (hk D' i _ hP.mix hai (by omega) (fun t t1 t2 => ?_) (fun t t1 t2 => hP.hi t (by omega) t2) h)) fun hle => ?_
  · by_cases e : t = a
    · rw [e, hP.pa]; exact Int.le_refl _
    · exact hP.lo t (by omega) t2
  obtain ⟨hP2, hlt⟩ := hP.swap (by omega) (hi (by omega)) (hj (by omega)) (by omega)
  have h := h.drew
  refine h.arrR .head l (by omega) ?_
  refine h.arrR .head l (by omega) ?_
  refine h.arrW .head l (by omega) fun w' h => ?_
  refine h.arrW .head (by rw [List.length_set]; exact l) (by omega) fun w' h => ?_
  exact leti (y := ((i + 1 : Nat) : Int)) (by rw [wrap_i64 (by omega) (by omega)]; omega) (leti (y := ((j - 1 : Nat) : Int)) (by rw [wrap_i64 (by omega) (by omega)]; omega) ⟨j - 1, by omega, i + 1, j - 1, _, rfl, rfl, rfl, hP2, h⟩)
end
end Go.Br

/- slices.Sort of numbers: a range is sorted by insertion. -/
set_option linter.unusedVariables false
set_option linter.unusedSimpArgs false
set_option linter.unnecessarySimpa false
namespace Go.Br
open Go
attribute [local irreducible] Addr.add RD RDS RUN RUNU NILC LETB CALL CALLX CALLV

/-- A range is sorted. -/
def SrtR (a b : Nat) (D : List Int) : Prop := ∀ s t, a ≤ s → s < t → t < b → at0 D s ≤ at0 D t
/-- All but one place are sorted, and that one isn't above those behind it. -/
structure InsP (a i j : Nat) (D : List Int) : Prop where
  rest : ∀ s t, a ≤ s → s < t → t ≤ i → s ≠ j → t ≠ j → at0 D s ≤ at0 D t
  up : ∀ t, j < t → t ≤ i → at0 D j ≤ at0 D t
theorem InsP.step {a i j : Nat} {D : List Int} (h : InsP a i j D) (hj : a < j ∧ j ≤ i) (hx : at0 D j < at0 D (j - 1)) (hl : i < D.length) : InsP a i (j - 1) (swp D j (j - 1)) := by
  have sa := fun t => swp_at (D := D) (i := j) (j := j - 1) (by omega) (by omega) t
  refine ⟨fun s t h1 h2 h3 h4 h5 => ?_, fun t h1 h2 => ?_⟩
  · rw [sa, sa, if_neg h4, if_neg h5]
    by_cases e1 : s = j
    · rw [if_pos e1, if_neg (by omega)]
      exact h.rest (j - 1) t (by omega) (by omega) h3 (by omega) (by omega)
    · rw [if_neg e1]
      by_cases e2 : t = j
      · rw [if_pos e2]
        exact h.rest s (j - 1) h1 (by omega) (by omega) (by omega) (by omega)
      · rw [if_neg e2]
        exact h.rest s t h1 h2 h3 e1 e2
  · rw [sa, sa, if_pos rfl, if_neg (by omega)]
    by_cases e2 : t = j
    · rw [if_pos e2]; omega
    · rw [if_neg e2]
      exact h.up t (by omega) h2
theorem InsP.done {a i j : Nat} {D : List Int} (h : InsP a i j D) (hj : a ≤ j ∧ j ≤ i) (hx : a < j → at0 D (j - 1) ≤ at0 D j) : SrtR a (i + 1) D := fun s t h1 h2 h3 => by
  by_cases e1 : s = j
  · rw [e1]; exact h.up t (by omega) (by omega)
  by_cases e2 : t = j
  · have h4 := hx (by omega)
    rw [e2]
    by_cases e3 : s = j - 1
    · rw [e3]; exact h4
    · exact Int.le_trans (h.rest s (j - 1) h1 (by omega) (by omega) e1 (by omega)) h4
  · exact h.rest s t h1 h2 (by omega) e1 e2
section
variable {c : Ctx} {w : World} {L R : List SA} {A : Option Addr} {n k : Nat} {D : List Int} {a b : Nat}
theorem insr_ok (h : St c w (own 3 1 A n k (D.flatMap iv) :: L)) (hn : D.length = n) (hb : n ≤ 1000000) (hab : a ≤ b) (hbn : b ≤ n) {Q : Value → World → Prop}
    (hk : ∀ D' w', Mix a b D D' → SrtR a b D' → St c w' (own 3 1 A n k (D'.flatMap iv) :: L) → Q (.tuple #[]) w') :
    CALL PG 43 [.slice A n k, .int .i64 (a : Int), .int .i64 (b : Int)] w Q := by
  refine call43 ?_
  unfold N43
  refine leti (y := ((a + 1 : Nat) : Int)) (by rw [wrap_i64 (by omega) (by omega)]; omega) ?_
  refine ⟨fun m i w' => ∃ (i' : Nat) (D' : List Int), i = i' ∧ m = b - i' ∧ a < i' ∧ Mix a b D D' ∧ SrtR a i' D' ∧ St c w' (own 3 1 A n k (D'.flatMap iv) :: L), ⟨_, a + 1, D, rfl, rfl, by omega, .refl _ _ _, fun s t h1 h2 h3 => by omega, h⟩, ?_⟩
  clear h
  rintro m _ w' ⟨i, D', rfl, rfl, hai, hM, hS, h⟩
  refine ifd (fun hlt => leti rfl ?_) fun hge => hk D' _ hM (fun s t h1 h2 h3 => hS s t h1 h2 (by omega)) h
  refine ⟨fun m2 j w' => ∃ (j' : Nat) (D' : List Int), j = j' ∧ m2 = j' ∧ a ≤ j' ∧ j' ≤ i ∧ Mix a b D D' ∧ InsP a i j' D' ∧ St c w' (own 3 1 A n k (D'.flatMap iv) :: L), ⟨_, i, D', rfl, rfl, by omega, Nat.le_refl _, hM, ⟨fun s t h1 h2 h3 h4 h5 => hS s t h1 h2 (by omega), fun t h1 h2 => by omega⟩, h⟩, ?_⟩
  clear h hM hS D'
  rintro m2 _ w' ⟨j, D', rfl, rfl, haj, hji, hM, hI, h⟩
  have l : D'.length = n := by rw [hM.len, hn]
  have next : IntKind.i64.wrap ((i : Int) + 1) = ((i + 1 : Nat) : Int) := by rw [wrap_i64 (by omega) (by omega)]; omega
  refine ifd (fun hgt => ?_) fun hle => leti next ⟨_, by omega, i + 1, D', rfl, rfl, by omega, hM, hI.done ⟨haj, hji⟩ (fun e => by omega), h.drew⟩
  have e1 : IntKind.i64.wrap ((m2 : Int) - 1) = ((m2 - 1 : Nat) : Int) := by rw [wrap_i64 (by omega) (by omega)]; omega
  rw [e1]
  have h := h.drew
  refine h.arrR .head l (by omega) ?_
  refine h.arrR .head l (by omega) ?_
  refine less_ok ?_
  (repeat (first | apply Exists.intro (α := Int) | apply Exists.intro (α := Bool) | apply Exists.intro (α := ByteArray) | (apply Exists.intro (α := Option Addr); apply Exists.intro (α := Nat); apply Exists.intro (α := Nat)) | apply Exists.intro (α := Option Addr) | apply Exists.intro (α := Value)))
  refine ⟨rfl, ?_⟩
  refine ifd (fun hx => ?_) fun hx => leti next ⟨_, by omega, i + 1, D', rfl, rfl, by omega, hM, hI.done ⟨haj, hji⟩ (fun e => by omega), h⟩
  have h := h.drew
  refine h.arrR .head l (by omega) ?_
  refine h.arrR .head l (by omega) ?_
  refine h.arrW .head l (by omega) fun w' h => ?_
  refine h.arrW .head (by rw [List.length_set]; exact l) (by omega) fun w' h => ?_
  exact leti rfl ⟨m2 - 1, by omega, m2 - 1, swp D' m2 (m2 - 1), rfl, rfl, by omega, by omega, hM.trans (Mix.swp ⟨by omega, by omega⟩ ⟨by omega, by omega⟩ (by omega)), hI.step ⟨by omega, hji⟩ hx (by omega), h⟩
end
end Go.Br

/- What the code of some functions says, as the core reads it; each reading is checked by the kernel. -/
set_option linter.unusedVariables false
set_option maxRecDepth 100000
namespace Go.Br
open Go Go.Proofs

/-- slices.heapSortOrdered[int] -/
def N44 (data : Option Addr) (dataN dataC : Nat) (a : Int) (b : Int) (w : World) (Q : Value → World → Prop) : Prop :=
 LETI a fun first =>
 LETI (IntKind.i64.wrap (b - a)) fun hi =>
 NEED ((2 : Int) ≠ 0)
 (LETI (IntKind.i64.wrap (Int.tdiv (IntKind.i64.wrap (hi - (1 : Int))) (2 : Int))) fun i =>
 ∃ I : Nat → Int → World → Prop,
 (∃ m, I m i w) ∧
 (∀ m1 (i1 : Int) (w1 : World), I m1 i1 w1 → (IFB (decide (i1 ≥ (0 : Int)))
 (CALL PG 57 [(.slice data dataN dataC), (.int .i64 i1), (.int .i64 hi), (.int .i64 first)] w1 fun v w2 =>
 v = (.tuple #[]) ∧
 (LETI (IntKind.i64.wrap (i1 - (1 : Int))) fun i2 =>
 ∃ m2, m2 < m1 ∧ I m2 i2 w2))
 (LETI (IntKind.i64.wrap (hi - (1 : Int))) fun i3 =>
 ∃ I1 : Nat → Int → World → Prop,
 (∃ m3, I1 m3 i3 w1) ∧
 (∀ m4 (i4 : Int) (w3 : World), I1 m4 i4 w3 → (IFB (decide (i4 ≥ (0 : Int)))
 (IDX data dataN (IntKind.i64.wrap (first + i4)) fun a43 =>
 RDI PG (loadVar 3 (Addr.add a43 (Int.toNat (IntKind.i64.wrap (first + i4)) * 1))) .i64 (w3.drew) fun x44 =>
 IDX data dataN first fun a47 =>
 RDI PG (loadVar 3 (Addr.add a47 (Int.toNat first * 1))) .i64 (w3.drew) fun x48 =>
 IDX data dataN first fun a49 =>
 RUNU PG (storeVar 3 (Addr.add a49 (Int.toNat first * 1)) (.int .i64 x44)) (w3.drew) fun w4 =>
 IDX data dataN (IntKind.i64.wrap (first + i4)) fun a50 =>
 RUNU PG (storeVar 3 (Addr.add a50 (Int.toNat (IntKind.i64.wrap (first + i4)) * 1)) (.int .i64 x48)) w4 fun w5 =>
 CALL PG 57 [(.slice data dataN dataC), (.int .i64 (0 : Int)), (.int .i64 i4), (.int .i64 first)] w5 fun v1 w6 =>
 v1 = (.tuple #[]) ∧
 (LETI (IntKind.i64.wrap (i4 - (1 : Int))) fun i5 =>
 ∃ m5, m5 < m4 ∧ I1 m5 i5 w6))
 (Q (.tuple #[]) w3)))))))
theorem eq44 : ∀ (data : Option Addr) (dataN dataC : Nat) (a : Int) (b : Int) (w : World) (Q : Value → World → Prop), vcF PG TB Tryd.f44 (.s .nil (.s .nil (.s .nil (.s (.s .nil (.u (.loop [(9, 3)] .nil))) (.s .nil (.u (.loop [(10, 3)] .nil))))))) [(.slice data dataN dataC), (.int .i64 a), (.int .i64 b)] w Q = N44 data dataN dataC a b w Q := by intros; kernel_rfl
theorem call44 {data : Option Addr} {dataN dataC : Nat} {a : Int} {b : Int} {w : World} {Q : Value → World → Prop} (hN : N44 data dataN dataC a b w Q) : CALL PG 44 [(.slice data dataN dataC), (.int .i64 a), (.int .i64 b)] w Q := calls_vc tabOk Tryd.func44 (by rw [eq44]; exact hN)

/-- slices.siftDownOrdered[int] -/
def N57 (data : Option Addr) (dataN dataC : Nat) (lo : Int) (hi : Int) (first : Int) (w : World) (Q : Value → World → Prop) : Prop :=
 LETI lo fun root =>
 ∃ I : Nat → Int → World → Prop,
 (∃ m, I m root w) ∧
 (∀ m1 (root1 : Int) (w1 : World), I m1 root1 w1 → (LETI (IntKind.i64.wrap ((IntKind.i64.wrap ((2 : Int) * root1)) + (1 : Int))) fun child =>
 IFB (decide (child ≥ hi))
 (Q (.tuple #[]) w1)
 (∃ R : Int → World → Prop,
 (IFB (decide ((IntKind.i64.wrap (child + (1 : Int))) < hi))
 (IDX data dataN (IntKind.i64.wrap (first + child)) fun a26 =>
 RDI PG (loadVar 3 (Addr.add a26 (Int.toNat (IntKind.i64.wrap (first + child)) * 1))) .i64 (w1.drew) fun x27 =>
 IDX data dataN (IntKind.i64.wrap ((IntKind.i64.wrap (first + child)) + (1 : Int))) fun a33 =>
 RDI PG (loadVar 3 (Addr.add a33 (Int.toNat (IntKind.i64.wrap ((IntKind.i64.wrap (first + child)) + (1 : Int))) * 1))) .i64 (w1.drew) fun x34 =>
 CALL PG 49 [(.int .i64 x27), (.int .i64 x34)] (w1.drew) fun v w2 =>
 ∃ x35 : Bool, v = (.bool x35) ∧
 (IFB x35
 (LETI (IntKind.i64.wrap (child + (1 : Int))) fun child1 =>
 R child1 w2)
 (R child w2)))
 (R child (w1.drew))) ∧
 (∀ (child2 : Int) (w3 : World), R child2 w3 → (IDX data dataN (IntKind.i64.wrap (first + root1)) fun a43 =>
 RDI PG (loadVar 3 (Addr.add a43 (Int.toNat (IntKind.i64.wrap (first + root1)) * 1))) .i64 (w3.drew) fun x44 =>
 IDX data dataN (IntKind.i64.wrap (first + child2)) fun a49 =>
 RDI PG (loadVar 3 (Addr.add a49 (Int.toNat (IntKind.i64.wrap (first + child2)) * 1))) .i64 (w3.drew) fun x50 =>
 CALL PG 49 [(.int .i64 x44), (.int .i64 x50)] (w3.drew) fun v1 w4 =>
 ∃ x51 : Bool, v1 = (.bool x51) ∧
 (IFB (!x51)
 (Q (.tuple #[]) w4)
 (IDX data dataN (IntKind.i64.wrap (first + child2)) fun a65 =>
 RDI PG (loadVar 3 (Addr.add a65 (Int.toNat (IntKind.i64.wrap (first + child2)) * 1))) .i64 (w4.drew) fun x66 =>
 IDX data dataN (IntKind.i64.wrap (first + root1)) fun a71 =>
 RDI PG (loadVar 3 (Addr.add a71 (Int.toNat (IntKind.i64.wrap (first + root1)) * 1))) .i64 (w4.drew) fun x72 =>
 IDX data dataN (IntKind.i64.wrap (first + root1)) fun a73 =>
 RUNU PG (storeVar 3 (Addr.add a73 (Int.toNat (IntKind.i64.wrap (first + root1)) * 1)) (.int .i64 x66)) (w4.drew) fun w5 =>
 IDX data dataN (IntKind.i64.wrap (first + child2)) fun a74 =>
 RUNU PG (storeVar 3 (Addr.add a74 (Int.toNat (IntKind.i64.wrap (first + child2)) * 1)) (.int .i64 x72)) w5 fun w6 =>
 LETI child2 fun root2 =>
 ∃ m2, m2 < m1 ∧ I m2 root2 w6)))))))
theorem eq57 : ∀ (data : Option Addr) (dataN dataC : Nat) (lo : Int) (hi : Int) (first : Int) (w : World) (Q : Value → World → Prop), vcF PG TB Tryd.f57 (.s .nil (.u (.loop [(8, 3)] (.u (.s .nil (.s .nil (.cut [(9, 3)] .nil .nil))))))) [(.slice data dataN dataC), (.int .i64 lo), (.int .i64 hi), (.int .i64 first)] w Q = N57 data dataN dataC lo hi first w Q := by intros; kernel_rfl
theorem call57 {data : Option Addr} {dataN dataC : Nat} {lo : Int} {hi : Int} {first : Int} {w : World} {Q : Value → World → Prop} (hN : N57 data dataN dataC lo hi first w Q) : CALL PG 57 [(.slice data dataN dataC), (.int .i64 lo), (.int .i64 hi), (.int .i64 first)] w Q := calls_vc tabOk Tryd.func57 (by rw [eq57]; exact hN)

end Go.Br

/- slices.Sort of numbers: heaps. -/
set_option linter.unusedVariables false
set_option linter.unusedSimpArgs false
set_option linter.unnecessarySimpa false
namespace Go.Br
open Go
attribute [local irreducible] Addr.add RD RDS RUN RUNU NILC LETB CALL CALLX CALLV

/-- A heap that lies from a place on, from a parent on, but for one parent. -/
structure HP (f hi lo r : Nat) (D : List Int) : Prop where
  ok : ∀ p x, lo ≤ p → p ≠ r → (x = 2 * p + 1 ∨ x = 2 * p + 2) → x < hi → at0 D (f + x) ≤ at0 D (f + p)
  up : ∀ q x, lo ≤ q → (r = 2 * q + 1 ∨ r = 2 * q + 2) → (x = 2 * r + 1 ∨ x = 2 * r + 2) → x < hi → at0 D (f + x) ≤ at0 D (f + q)
def Hp (f hi lo : Nat) (D : List Int) : Prop := ∀ p x, lo ≤ p → (x = 2 * p + 1 ∨ x = 2 * p + 2) → x < hi → at0 D (f + x) ≤ at0 D (f + p)
theorem HP.step {f hi lo r y : Nat} {D : List Int} (h : HP f hi lo r D) (hr : lo ≤ r) (hy : y = 2 * r + 1 ∨ y = 2 * r + 2) (hyh : y < hi) (hmx : ∀ x, (x = 2 * r + 1 ∨ x = 2 * r + 2) → x < hi → at0 D (f + x) ≤ at0 D (f + y)) (hlt : at0 D (f + r) < at0 D (f + y)) (hl : f + hi ≤ D.length) : HP f hi lo y (swp D (f + r) (f + y)) := by
  have sa := fun t => swp_at (D := D) (i := f + r) (j := f + y) (by omega) (by omega) t
  refine ⟨fun p x h1 h2 h3 h4 => ?_, fun q x h1 h2 h3 h4 => ?_⟩
  · rw [sa, sa, if_neg (show ¬ f + p = f + y by omega)]
    by_cases ep : p = r
    · subst ep
      rw [if_pos (rfl : f + p = f + p)]
      by_cases ex : x = y
      · rw [if_pos (by omega)]; omega
      · rw [if_neg (by omega), if_neg (by omega)]
        exact hmx x h3 h4
    · rw [if_neg (show ¬ f + p = f + r by omega), if_neg (show ¬ f + x = f + y by omega)]
      by_cases ex : x = r
      · rw [if_pos (by omega)]
        exact h.up p y h1 (by omega) hy hyh
      · rw [if_neg (by omega)]
        exact h.ok p x h1 ep h3 h4
  · have eq : q = r := by omega
    subst eq
    rw [sa, sa, if_neg (by omega), if_neg (by omega), if_neg (by omega), if_pos rfl]
    exact h.ok y x (by omega) (by omega) h3 h4
theorem HP.done {f hi lo r : Nat} {D : List Int} (h : HP f hi lo r D) (hr : ∀ x, (x = 2 * r + 1 ∨ x = 2 * r + 2) → x < hi → at0 D (f + x) ≤ at0 D (f + r)) : Hp f hi lo D := fun p x h1 h2 h3 => by
  by_cases e : p = r
  · subst e; exact hr x h2 h3
  · exact h.ok p x h1 e h2 h3
theorem Hp.max {f hi : Nat} {D : List Int} (h : Hp f hi 0 D) : ∀ p, p < hi → at0 D (f + p) ≤ at0 D f := by
  intro p
  induction p using Nat.strongRecOn with
  | _ p ih =>
    intro hp
    rcases Nat.eq_zero_or_pos p with rfl | h0
    · exact Int.le_refl _
    · exact Int.le_trans (h ((p - 1) / 2) p (by omega) (by omega) hp) (ih ((p - 1) / 2) (by omega) (by omega))
section
variable {c : Ctx} {w : World} {L R : List SA} {A : Option Addr} {n k : Nat} {D : List Int} {f hi lo : Nat}
theorem sift_ok (h : St c w (own 3 1 A n k (D.flatMap iv) :: L)) (hn : D.length = n) (hb : n ≤ 1000000) (hfh : f + hi ≤ n) (hP : HP f hi lo lo D) {Q : Value → World → Prop}
    (hk : ∀ D' w', Mix f (f + hi) D D' → Hp f hi lo D' → St c w' (own 3 1 A n k (D'.flatMap iv) :: L) → Q (.tuple #[]) w') (hlo : lo ≤ 1000000) :
    CALL PG 57 [.slice A n k, .int .i64 (lo : Int), .int .i64 (hi : Int), .int .i64 (f : Int)] w Q := by
  refine call57 ?_
  unfold N57
  refine leti rfl ?_
  refine ⟨fun m r w' => ∃ (r' : Nat) (D' : List Int), r = r' ∧ m = hi + lo - r' ∧ lo ≤ r' ∧ (r' < hi ∨ r' = lo) ∧ Mix f (f + hi) D D' ∧ HP f hi lo r' D' ∧ St c w' (own 3 1 A n k (D'.flatMap iv) :: L), ⟨_, lo, D, rfl, rfl, Nat.le_refl _, .inr rfl, .refl _ _ _, hP, h⟩, ?_⟩
  clear h hP
  rintro m _ w' ⟨r, D', rfl, rfl, hr, hrh, hM, hP, h⟩
  have l : D'.length = n := by rw [hM.len, hn]
  refine leti (y := ((2 * r + 1 : Nat) : Int)) (by rw [wrap_i64 (n := 2 * (r : Int)) (by omega) (by omega), wrap_i64 (by omega) (by omega)]; omega) ?_
  refine ifd (fun hge => hk D' _ hM (hP.done fun x h1 h2 => by omega) h) fun hlt => ?_
  have w1 : ∀ y : Nat, y < hi → IntKind.i64.wrap ((f : Int) + (y : Int)) = ((f + y : Nat) : Int) := fun y hy => by rw [wrap_i64 (by omega) (by omega)]; omega
  refine ⟨fun y w' => ∃ y' : Nat, y = y' ∧ (y' = 2 * r + 1 ∨ y' = 2 * r + 2) ∧ y' < hi ∧ (∀ x, (x = 2 * r + 1 ∨ x = 2 * r + 2) → x < hi → at0 D' (f + x) ≤ at0 D' (f + y')) ∧ St c w' (own 3 1 A n k (D'.flatMap iv) :: L), ?_, ?_⟩
  · have h := h.drew
    rw [show IntKind.i64.wrap (((2 * r + 1 : Nat) : Int) + 1) = ((2 * r + 2 : Nat) : Int) by rw [wrap_i64 (by omega) (by omega)]; omega]
    refine ifd (fun h2 => ?_) fun h2 => ⟨2 * r + 1, rfl, .inl rfl, by omega, fun x h1 h3 => by rw [show x = 2 * r + 1 by omega]; exact Int.le_refl _, h⟩
    rw [w1 (2 * r + 1) (by omega), show IntKind.i64.wrap (((f + (2 * r + 1) : Nat) : Int) + 1) = ((f + (2 * r + 2) : Nat) : Int) by rw [wrap_i64 (by omega) (by omega)]; omega]
    refine h.arrR .head l (by omega) ?_
    refine h.arrR .head l (by omega) ?_
    refine less_ok ?_
    (repeat (first | apply Exists.intro (α := Int) | apply Exists.intro (α := Bool) | apply Exists.intro (α := ByteArray) | (apply Exists.intro (α := Option Addr); apply Exists.intro (α := Nat); apply Exists.intro (α := Nat)) | apply Exists.intro (α := Option Addr) | apply Exists.intro (α := Value)))
    refine ⟨rfl, ?_⟩
    refine ifd (fun hx => leti rfl ⟨2 * r + 2, rfl, .inr rfl, by omega, fun x h1 h3 => ?_, h⟩) fun hx => ⟨2 * r + 1, rfl, .inl rfl, by omega, fun x h1 h3 => ?_, h⟩
    · rcases h1 with rfl | rfl
      · omega
      · exact Int.le_refl _
    · rcases h1 with rfl | rfl
      · exact Int.le_refl _
      · omega
  clear h
  rintro _ w' ⟨y, rfl, hy, hyh, hmx, h⟩
  have h := h.drew
  rw [w1 r (by omega), w1 y hyh]
  refine h.arrR .head l (by omega) ?_
  refine h.arrR .head l (by omega) ?_
  refine less_ok ?_
  (repeat (first | apply Exists.intro (α := Int) | apply Exists.intro (α := Bool) | apply Exists.intro (α := ByteArray) | (apply Exists.intro (α := Option Addr); apply Exists.intro (α := Nat); apply Exists.intro (α := Nat)) | apply Exists.intro (α := Option Addr) | apply Exists.intro (α := Value)))
  refine ⟨rfl, ?_⟩
  refine ifnot (fun hx => ?_) fun hx => ?_
  · have hx := of_decide_eq_false hx
    exact hk D' _ hM (hP.done fun x h1 h2 => Int.le_trans (hmx x h1 h2) (by omega)) h
  have hx := of_decide_eq_true hx
  have h := h.drew
  refine h.arrR .head l (by omega) ?_
  refine h.arrR .head l (by omega) ?_
  refine h.arrW .head l (by omega) fun w' h => ?_
  refine h.arrW .head (by rw [List.length_set]; exact l) (by omega) fun w' h => ?_
  exact leti rfl ⟨_, by omega, y, swp D' (f + r) (f + y), rfl, rfl, by omega, .inl hyh, hM.trans (Mix.swp ⟨by omega, by omega⟩ ⟨by omega, by omega⟩ (by omega)), hP.step hr hy hyh hmx hx (by omega), h⟩
theorem heap_ok {a b : Nat} (h : St c w (own 3 1 A n k (D.flatMap iv) :: L)) (hn : D.length = n) (hb : n ≤ 1000000) (hab : a < b) (hbn : b ≤ n) {Q : Value → World → Prop}
    (hk : ∀ D' w', Mix a b D D' → SrtR a b D' → St c w' (own 3 1 A n k (D'.flatMap iv) :: L) → Q (.tuple #[]) w') :
    CALL PG 44 [.slice A n k, .int .i64 (a : Int), .int .i64 (b : Int)] w Q := by
  obtain ⟨hi, rfl⟩ : ∃ hi, b = a + hi := ⟨b - a, by omega⟩
  refine call44 ?_
  unfold N44
  refine leti rfl (leti (y := (hi : Int)) (by rw [wrap_i64 (by omega) (by omega)]; omega) ?_)
  refine ⟨by decide, leti (y := (((hi - 1) / 2 : Nat) : Int)) ?_ ?_⟩
  · rw [wrap_i64 (n := (hi : Int) - 1) (by omega) (by omega), Int.tdiv_eq_ediv_of_nonneg (by omega), wrap_i64 (by omega) (by omega)]
    omega
  refine ⟨fun m i w' => ∃ (i' : Nat) (D' : List Int), i = (i' : Int) - 1 ∧ m = i' ∧ i' ≤ hi ∧ Mix a (a + hi) D D' ∧ Hp a hi i' D' ∧ St c w' (own 3 1 A n k (D'.flatMap iv) :: L), ⟨_, (hi - 1) / 2 + 1, D, by omega, rfl, by omega, .refl _ _ _, fun p x h1 h2 h3 => by omega, h⟩, ?_⟩
  clear h
  rintro m _ w' ⟨i, D', rfl, rfl, hih, hM, hH, h⟩
  have l : D'.length = n := by rw [hM.len, hn]
  refine ifd (fun hge => ?_) fun hlt => ?_
  · rw [show (m : Int) - 1 = ((m - 1 : Nat) : Int) by omega]
    refine sift_ok h l hb hbn ⟨fun p x h1 h2 h3 h4 => hH p x (by omega) h3 h4, fun q x h1 h2 h3 h4 => by omega⟩ (fun D2 w' hM2 hH2 h => ?_) (by omega)
    (repeat (first | apply Exists.intro (α := Int) | apply Exists.intro (α := Bool) | apply Exists.intro (α := ByteArray) | (apply Exists.intro (α := Option Addr); apply Exists.intro (α := Nat); apply Exists.intro (α := Nat)) | apply Exists.intro (α := Option Addr) | apply Exists.intro (α := Value)))
    refine ⟨rfl, ?_⟩
    exact leti rfl ⟨m - 1, by omega, m - 1, D2, by rw [wrap_i64 (by omega) (by omega)], rfl, by omega, hM.trans hM2, hH2, h⟩
  have e0 : m = 0 := by omega
  subst e0
  refine leti (y := (hi : Int) - 1) (by rw [wrap_i64 (by omega) (by omega)]) ?_
  refine ⟨fun m i w' => ∃ (i' : Nat) (D' : List Int), i = (i' : Int) - 1 ∧ m = i' ∧ i' ≤ hi ∧ Mix a (a + hi) D D' ∧ Hp a i' 0 D' ∧ SrtR (a + i') (a + hi) D' ∧ (∀ s t, a ≤ s → s < a + i' → a + i' ≤ t → t < a + hi → at0 D' s ≤ at0 D' t) ∧ St c w' (own 3 1 A n k (D'.flatMap iv) :: L), ⟨_, hi, D', rfl, rfl, Nat.le_refl _, hM, hH, fun s t h1 h2 h3 => by omega, fun s t h1 h2 h3 h4 => by omega, h⟩, ?_⟩
  clear h hM hH l D'
  rintro m _ w' ⟨i, D', rfl, rfl, hih, hM, hH, hS, hX, h⟩
  have l : D'.length = n := by rw [hM.len, hn]
  refine ifd (fun hge => ?_) fun hlt => ?_
  rotate_left
  · have e0 : m = 0 := by omega
    subst e0
    exact hk D' _ hM (by simpa using hS) h
  obtain ⟨e, rfl⟩ : ∃ e, m = e + 1 := ⟨m - 1, by omega⟩
  rw [show ((e + 1 : Nat) : Int) - 1 = (e : Int) by omega, show IntKind.i64.wrap ((a : Int) + (e : Int)) = ((a + e : Nat) : Int) by rw [wrap_i64 (by omega) (by omega)]; omega]
  have h := h.drew
  refine h.arrR .head l (by omega) ?_
  refine h.arrR .head l (by omega) ?_
  refine h.arrW .head l (by omega) fun w' h => ?_
  refine h.arrW .head (by rw [List.length_set]; exact l) (by omega) fun w' h => ?_
  have h : St c w' (own 3 1 A n k ((swp D' a (a + e)).flatMap iv) :: L) := h
  have sa := fun t => swp_at (D := D') (i := a) (j := a + e) (by omega) (by omega) t
  have hM1 : Mix a (a + hi) D (swp D' a (a + e)) := hM.trans (Mix.swp ⟨Nat.le_refl _, by omega⟩ ⟨by omega, by omega⟩ (by omega))
  have hmax := hH.max
  have hD1 : ∀ t, a + (e + 1) ≤ t → at0 (swp D' a (a + e)) t = at0 D' t := fun t h1 => by rw [sa, if_neg (by omega), if_neg (by omega)]
  have hDe : at0 (swp D' a (a + e)) (a + e) = at0 D' a := by rw [sa, if_pos rfl]
  have hDs : ∀ s, a ≤ s → s < a + e → ∃ r, a ≤ r ∧ r < a + (e + 1) ∧ at0 (swp D' a (a + e)) s = at0 D' r := fun s h1 h2 => by
    rw [sa, if_neg (by omega)]
    split
    · exact ⟨a + e, by omega, by omega, rfl⟩
    · exact ⟨s, h1, by omega, rfl⟩
  have hHP : HP a e 0 0 (swp D' a (a + e)) := ⟨fun p x h1 h2 h3 h4 => by
    rw [sa, sa, if_neg (by omega), if_neg (by omega), if_neg (by omega), if_neg (by omega)]
    exact hH p x h1 h3 (by omega), fun q x h1 h2 h3 h4 => by omega⟩
  generalize swp D' a (a + e) = D1 at *
  refine sift_ok h (by rw [hM1.len, hn]) hb (by omega) hHP (fun D2 w' hM2 hH2 h => ?_) (by omega)
  (repeat (first | apply Exists.intro (α := Int) | apply Exists.intro (α := Bool) | apply Exists.intro (α := ByteArray) | (apply Exists.intro (α := Option Addr); apply Exists.intro (α := Nat); apply Exists.intro (α := Nat)) | apply Exists.intro (α := Option Addr) | apply Exists.intro (α := Value)))
  refine ⟨rfl, ?_⟩
  have out : ∀ t, a + e ≤ t → at0 D2 t = at0 D1 t := fun t h1 => hM2.out t (.inr h1)
  refine leti rfl ⟨e, by omega, e, D2, by rw [wrap_i64 (by omega) (by omega)], rfl, by omega, hM1.trans (hM2.mono (Nat.le_refl _) (by omega)), hH2, fun s t h1 h2 h3 => ?_, fun s t h1 h2 h3 h4 => ?_, h⟩
  · rw [out s h1, out t (by omega), hD1 t (by omega)]
    by_cases es : s = a + e
    · rw [es, hDe]
      exact hX a t (Nat.le_refl _) (by omega) (by omega) h3
    · rw [hD1 s (by omega)]
      exact hS s t (by omega) h2 h3
  · obtain ⟨r, r1, r2, r3⟩ := hM2.sub s h1 h2
    obtain ⟨r', q1, q2, q3⟩ := hDs r r1 r2
    rw [r3, q3, out t h3]
    by_cases et : t = a + e
    · rw [et, hDe]
      have := hmax (r' - a) (by omega)
      rwa [show a + (r' - a) = r' by omega] at this
    · rw [hD1 t (by omega)]
      exact hX r' t q1 q2 (by omega) h4
end
end Go.Br

/- What the code of some functions says, as the core reads it; each reading is checked by the kernel. -/
set_option linter.unusedVariables false
set_option maxRecDepth 100000
namespace Go.Br
open Go Go.Proofs

/-- (*slices.xorshift).Next -/
def N59 (r : Option Addr) (w : World) (Q : Value → World → Prop) : Prop :=
 NILC r fun a4 =>
 RDI PG (loadVar 97 a4) .u64 (w.drew) fun x5 =>
 NILC r fun a7 =>
 RDI PG (loadVar 97 a7) .u64 (w.drew) fun x8 =>
 NEED (0 ≤ (13 : Int))
 (NILC r fun a11 =>
 RUNU PG (storeVar 97 a11 (.int .u64 (IntKind.u64.wrap (BitVec.ofInt (IntKind.u64.bits) x5 ^^^ BitVec.ofInt (IntKind.u64.bits) (shlN .u64 x8 (13 : Int))).toNat))) (w.drew) fun w1 =>
 NILC r fun a13 =>
 RDI PG (loadVar 97 a13) .u64 (w1.drew) fun x14 =>
 NILC r fun a16 =>
 RDI PG (loadVar 97 a16) .u64 (w1.drew) fun x17 =>
 NEED (0 ≤ (7 : Int))
 (NILC r fun a20 =>
 RUNU PG (storeVar 97 a20 (.int .u64 (IntKind.u64.wrap (BitVec.ofInt (IntKind.u64.bits) x14 ^^^ BitVec.ofInt (IntKind.u64.bits) (shrN .u64 x17 (7 : Int))).toNat))) (w1.drew) fun w2 =>
 NILC r fun a22 =>
 RDI PG (loadVar 97 a22) .u64 (w2.drew) fun x23 =>
 NILC r fun a25 =>
 RDI PG (loadVar 97 a25) .u64 (w2.drew) fun x26 =>
 NEED (0 ≤ (17 : Int))
 (NILC r fun a29 =>
 RUNU PG (storeVar 97 a29 (.int .u64 (IntKind.u64.wrap (BitVec.ofInt (IntKind.u64.bits) x23 ^^^ BitVec.ofInt (IntKind.u64.bits) (shlN .u64 x26 (17 : Int))).toNat))) (w2.drew) fun w3 =>
 NILC r fun a31 =>
 RDI PG (loadVar 97 a31) .u64 w3 fun x32 =>
 LETI x32 fun x2 =>
 Q (.int .u64 x2) w3)))
theorem eq59 : ∀ (r : Option Addr) (w : World) (Q : Value → World → Prop), vcF PG TB Tryd.f59 .nil [(.pointer r)] w Q = N59 r w Q := by intros; kernel_rfl
theorem call59 {r : Option Addr} {w : World} {Q : Value → World → Prop} (hN : N59 r w Q) : CALL PG 59 [(.pointer r)] w Q := calls_vc tabOk Tryd.func59 (by rw [eq59]; exact hN)

end Go.Br

/- slices.Sort of numbers: chance. -/
set_option linter.unusedVariables false
set_option linter.unusedSimpArgs false
set_option linter.unnecessarySimpa false
namespace Go.Br
open Go
attribute [local irreducible] Addr.add RD RDS RUN RUNU NILC LETB CALL CALLX CALLV

section
variable {c : Ctx} {w : World} {L R : List SA}
theorem xnext_ok (h : St c w L) {q : Nat} {s : Int} (hp : Pick (Br.blk q 97 [.int .u64 s]) L R) {Q : Value → World → Prop} (hk : ∀ (x : Int) w', 0 ≤ x → x < 18446744073709551616 → St c w' (Br.blk q 97 [.int .u64 x] :: R) → Q (.int .u64 x) w') : CALL PG 59 [.pointer (some ⟨q, 0, none⟩)] w Q := by
  have h := h.pick hp
  refine call59 ?_
  unfold N59
  have h := h.drew
  refine nilc (h.rdvI (nilc (h.rdvI ⟨by decide, nilc (h.stV fun w' h => ?_)⟩)))
  have h := h.drew
  refine nilc (h.rdvI (nilc (h.rdvI ⟨by decide, nilc (h.stV fun w' h => ?_)⟩)))
  have h := h.drew
  refine nilc (h.rdvI (nilc (h.rdvI ⟨by decide, nilc (h.stV fun w' h => ?_)⟩)))
  refine nilc (h.rdvI (leti rfl (hk _ _ ?_ ?_ h)))
  all_goals (rw [wrapU64]; omega)
end
end Go.Br

/- What the code of some functions says, as the core reads it; each reading is checked by the kernel. -/
set_option linter.unusedVariables false
set_option maxRecDepth 100000
namespace Go.Br
open Go Go.Proofs

/-- slices.partialInsertionSortOrdered[int] -/
def N48 (data : Option Addr) (dataN dataC : Nat) (a : Int) (b : Int) (w : World) (Q : Value → World → Prop) : Prop :=
 LETI (IntKind.i64.wrap (a + (1 : Int))) fun i =>
 ∃ I : Nat → Int → Int → World → Prop,
 (∃ m, I m i (0 : Int) w) ∧
 (∀ m1 (i1 : Int) (j : Int) (w1 : World), I m1 i1 j w1 → (IFB (decide (j < (5 : Int)))
 (∃ R : Int → World → Prop,
 (∃ I1 : Nat → Int → World → Prop,
 (∃ m2, I1 m2 i1 w1) ∧
 (∀ m3 (i2 : Int) (w2 : World), I1 m3 i2 w2 → (IFB (decide (i2 < b))
 (IDX data dataN i2 fun a23 =>
 RDI PG (loadVar 3 (Addr.add a23 (Int.toNat i2 * 1))) .i64 (w2.drew) fun x24 =>
 IDX data dataN (IntKind.i64.wrap (i2 - (1 : Int))) fun a28 =>
 RDI PG (loadVar 3 (Addr.add a28 (Int.toNat (IntKind.i64.wrap (i2 - (1 : Int))) * 1))) .i64 (w2.drew) fun x29 =>
 CALL PG 49 [(.int .i64 x24), (.int .i64 x29)] (w2.drew) fun v w3 =>
 ∃ x30 : Bool, v = (.bool x30) ∧
 (IFB (!x30)
 (LETI (IntKind.i64.wrap (i2 + (1 : Int))) fun i3 =>
 ∃ m4, m4 < m3 ∧ I1 m4 i3 w3)
 (R i2 w3)))
 (R i2 (w2.drew))))) ∧
 (∀ (i4 : Int) (w4 : World), R i4 w4 → (IFB (i4 == b)
 (Q (.bool true) w4)
 (IFB (decide ((IntKind.i64.wrap (b - a)) < (50 : Int)))
 (Q (.bool false) w4)
 (IDX data dataN (IntKind.i64.wrap (i4 - (1 : Int))) fun a50 =>
 RDI PG (loadVar 3 (Addr.add a50 (Int.toNat (IntKind.i64.wrap (i4 - (1 : Int))) * 1))) .i64 (w4.drew) fun x51 =>
 IDX data dataN i4 fun a54 =>
 RDI PG (loadVar 3 (Addr.add a54 (Int.toNat i4 * 1))) .i64 (w4.drew) fun x55 =>
 IDX data dataN i4 fun a56 =>
 RUNU PG (storeVar 3 (Addr.add a56 (Int.toNat i4 * 1)) (.int .i64 x51)) (w4.drew) fun w5 =>
 IDX data dataN (IntKind.i64.wrap (i4 - (1 : Int))) fun a57 =>
 RUNU PG (storeVar 3 (Addr.add a57 (Int.toNat (IntKind.i64.wrap (i4 - (1 : Int))) * 1)) (.int .i64 x55)) w5 fun w6 =>
 ∃ R1 : World → Prop,
 (IFB (decide ((IntKind.i64.wrap (i4 - a)) ≥ (2 : Int)))
 (LETI (IntKind.i64.wrap (i4 - (1 : Int))) fun j1 =>
 ∃ I2 : Nat → Int → World → Prop,
 (∃ m5, I2 m5 j1 w6) ∧
 (∀ m6 (j2 : Int) (w7 : World), I2 m6 j2 w7 → (IFB (decide (j2 ≥ (1 : Int)))
 (IDX data dataN j2 fun a70 =>
 RDI PG (loadVar 3 (Addr.add a70 (Int.toNat j2 * 1))) .i64 (w7.drew) fun x71 =>
 IDX data dataN (IntKind.i64.wrap (j2 - (1 : Int))) fun a75 =>
 RDI PG (loadVar 3 (Addr.add a75 (Int.toNat (IntKind.i64.wrap (j2 - (1 : Int))) * 1))) .i64 (w7.drew) fun x76 =>
 CALL PG 49 [(.int .i64 x71), (.int .i64 x76)] (w7.drew) fun v1 w8 =>
 ∃ x77 : Bool, v1 = (.bool x77) ∧
 (IFB (!x77)
 (R1 w8)
 (IDX data dataN (IntKind.i64.wrap (j2 - (1 : Int))) fun a87 =>
 RDI PG (loadVar 3 (Addr.add a87 (Int.toNat (IntKind.i64.wrap (j2 - (1 : Int))) * 1))) .i64 (w8.drew) fun x88 =>
 IDX data dataN j2 fun a91 =>
 RDI PG (loadVar 3 (Addr.add a91 (Int.toNat j2 * 1))) .i64 (w8.drew) fun x92 =>
 IDX data dataN j2 fun a93 =>
 RUNU PG (storeVar 3 (Addr.add a93 (Int.toNat j2 * 1)) (.int .i64 x88)) (w8.drew) fun w9 =>
 IDX data dataN (IntKind.i64.wrap (j2 - (1 : Int))) fun a94 =>
 RUNU PG (storeVar 3 (Addr.add a94 (Int.toNat (IntKind.i64.wrap (j2 - (1 : Int))) * 1)) (.int .i64 x92)) w9 fun w10 =>
 LETI (IntKind.i64.wrap (j2 - (1 : Int))) fun j3 =>
 ∃ m7, m7 < m6 ∧ I2 m7 j3 w10)))
 (R1 w7))))
 (R1 w6)) ∧
 (∀  (w11 : World), R1 w11 → (IFB (decide ((IntKind.i64.wrap (b - i4)) ≥ (2 : Int)))
 (LETI (IntKind.i64.wrap (i4 + (1 : Int))) fun j4 =>
 ∃ I3 : Nat → Int → World → Prop,
 (∃ m8, I3 m8 j4 w11) ∧
 (∀ m9 (j5 : Int) (w12 : World), I3 m9 j5 w12 → (IFB (decide (j5 < b))
 (IDX data dataN j5 fun a108 =>
 RDI PG (loadVar 3 (Addr.add a108 (Int.toNat j5 * 1))) .i64 (w12.drew) fun x109 =>
 IDX data dataN (IntKind.i64.wrap (j5 - (1 : Int))) fun a113 =>
 RDI PG (loadVar 3 (Addr.add a113 (Int.toNat (IntKind.i64.wrap (j5 - (1 : Int))) * 1))) .i64 (w12.drew) fun x114 =>
 CALL PG 49 [(.int .i64 x109), (.int .i64 x114)] (w12.drew) fun v2 w13 =>
 ∃ x115 : Bool, v2 = (.bool x115) ∧
 (IFB (!x115)
 (LETI (IntKind.i64.wrap (j + (1 : Int))) fun j6 =>
 ∃ m10, m10 < m1 ∧ I m10 i4 j6 w13)
 (IDX data dataN (IntKind.i64.wrap (j5 - (1 : Int))) fun a125 =>
 RDI PG (loadVar 3 (Addr.add a125 (Int.toNat (IntKind.i64.wrap (j5 - (1 : Int))) * 1))) .i64 (w13.drew) fun x126 =>
 IDX data dataN j5 fun a129 =>
 RDI PG (loadVar 3 (Addr.add a129 (Int.toNat j5 * 1))) .i64 (w13.drew) fun x130 =>
 IDX data dataN j5 fun a131 =>
 RUNU PG (storeVar 3 (Addr.add a131 (Int.toNat j5 * 1)) (.int .i64 x126)) (w13.drew) fun w14 =>
 IDX data dataN (IntKind.i64.wrap (j5 - (1 : Int))) fun a132 =>
 RUNU PG (storeVar 3 (Addr.add a132 (Int.toNat (IntKind.i64.wrap (j5 - (1 : Int))) * 1)) (.int .i64 x130)) w14 fun w15 =>
 LETI (IntKind.i64.wrap (j5 + (1 : Int))) fun j7 =>
 ∃ m11, m11 < m9 ∧ I3 m11 j7 w15)))
 (LETI (IntKind.i64.wrap (j + (1 : Int))) fun j8 =>
 ∃ m12, m12 < m1 ∧ I m12 i4 j8 w12))))
 (LETI (IntKind.i64.wrap (j + (1 : Int))) fun j9 =>
 ∃ m13, m13 < m1 ∧ I m13 i4 j9 w11))))))))
 (Q (.bool false) w1)))
theorem eq48 : ∀ (data : Option Addr) (dataN dataC : Nat) (a : Int) (b : Int) (w : World) (Q : Value → World → Prop), vcF PG TB Tryd.f48 (.s .nil (.s .nil (.s (.s .nil (.u (.loop [(7, 3), (8, 3)] (.s .nil (.s (.u (.cut [(7, 3)] (.u (.loop [(7, 3)] .nil)) (.s .nil (.s .nil (.s .nil (.cut [] (.s .nil (.c (.s .nil (.u (.loop [(9, 3)] .nil))) .nil)) (.s .nil (.c (.s .nil (.u (.loop [(10, 3)] .nil))) .nil)))))))) .nil))))) .nil))) [(.slice data dataN dataC), (.int .i64 a), (.int .i64 b)] w Q = N48 data dataN dataC a b w Q := by intros; kernel_rfl
theorem call48 {data : Option Addr} {dataN dataC : Nat} {a : Int} {b : Int} {w : World} {Q : Value → World → Prop} (hN : N48 data dataN dataC a b w Q) : CALL PG 48 [(.slice data dataN dataC), (.int .i64 a), (.int .i64 b)] w Q := calls_vc tabOk Tryd.func48 (by rw [eq48]; exact hN)

end Go.Br

/- slices.Sort of numbers: a range that is nearly sorted. -/
set_option linter.unusedVariables false
set_option linter.unusedSimpArgs false
set_option linter.unnecessarySimpa false
namespace Go.Br
open Go
attribute [local irreducible] Addr.add RD RDS RUN RUNU NILC LETB CALL CALLX CALLV

/-- What stands ahead of a range isn't above it. -/
def Pre (a b : Nat) (D : List Int) : Prop := a = 0 ∨ ∀ t, a ≤ t → t < b → at0 D (a - 1) ≤ at0 D t
theorem Pre.mix {a b : Nat} {D D' : List Int} (h : Pre a b D) (hM : Mix a b D D') : Pre a b D' := by
  rcases h with h | h
  · exact .inl h
  · by_cases ha : a = 0
    · exact .inl ha
    · refine .inr fun t h1 h2 => ?_
      obtain ⟨s, s1, s2, s3⟩ := hM.sub t h1 h2
      rw [hM.out (a - 1) (.inl (by omega)), s3]
      exact h s s1 s2
section
variable {c : Ctx} {w : World} {L R : List SA} {A : Option Addr} {n k : Nat} {D : List Int} {a b : Nat}
theorem partial_ok (h : St c w (own 3 1 A n k (D.flatMap iv) :: L)) (hn : D.length = n) (hb : n ≤ 1000000) (hab : a < b) (hbn : b ≤ n) (hp : Pre a b D) {Q : Value → World → Prop}
    (hk : ∀ D' (bb : Bool) w', Mix a b D D' → (bb = true → SrtR a b D') → St c w' (own 3 1 A n k (D'.flatMap iv) :: L) → Q (.bool bb) w') :
    CALL PG 48 [.slice A n k, .int .i64 (a : Int), .int .i64 (b : Int)] w Q := by
  have lD : ∀ {D' : List Int}, Mix a b D D' → D'.length = n := fun h => by rw [h.len, hn]
  refine call48 ?_
  unfold N48
  refine leti (y := ((a + 1 : Nat) : Int)) (by rw [wrap_i64 (by omega) (by omega)]; omega) ?_
  refine ⟨fun m i j w' => ∃ (i' : Nat) (D' : List Int), i = i' ∧ 0 ≤ j ∧ j ≤ 5 ∧ m = (5 - j).toNat ∧ a < i' ∧ i' ≤ b ∧ Mix a b D D' ∧ SrtR a i' D' ∧ St c w' (own 3 1 A n k (D'.flatMap iv) :: L), ⟨_, a + 1, D, rfl, by omega, by omega, rfl, by omega, by omega, .refl _ _ _, fun s t h1 h2 h3 => by omega, h⟩, ?_⟩
  clear h
  rintro m _ j w' ⟨i, D', rfl, j0, j5, rfl, hai, hib, hM, hS, h⟩
  refine ifd (fun hlt => ?_) fun _ => hk D' false _ hM (fun e => by cases e) h
  refine ⟨fun x w' => ∃ i' : Nat, x = i' ∧ a < i' ∧ i' ≤ b ∧ SrtR a i' D' ∧ (i' < b → at0 D' i' < at0 D' (i' - 1)) ∧ St c w' (own 3 1 A n k (D'.flatMap iv) :: L), ⟨fun q x w' => ∃ i' : Nat, x = i' ∧ q = b - i' ∧ a < i' ∧ i' ≤ b ∧ SrtR a i' D' ∧ St c w' (own 3 1 A n k (D'.flatMap iv) :: L), ⟨_, i, rfl, rfl, hai, hib, hS, h⟩, ?_⟩, ?_⟩
  · clear h hS
    rintro q _ w' ⟨i, rfl, rfl, hai, hib, hS, h⟩
    have h := h.drew
    refine ifd (fun hl => ?_) fun _ => ⟨i, rfl, hai, hib, hS, fun e => by omega, h⟩
    rw [show IntKind.i64.wrap ((i : Int) - 1) = ((i - 1 : Nat) : Int) by rw [wrap_i64 (by omega) (by omega)]; omega]
    refine h.arrR .head (lD hM) (by omega) ?_
    refine h.arrR .head (lD hM) (by omega) ?_
    refine less_ok ?_
    (repeat (first | apply Exists.intro (α := Int) | apply Exists.intro (α := Bool) | apply Exists.intro (α := ByteArray) | (apply Exists.intro (α := Option Addr); apply Exists.intro (α := Nat); apply Exists.intro (α := Nat)) | apply Exists.intro (α := Option Addr) | apply Exists.intro (α := Value)))
    refine ⟨rfl, ?_⟩
    refine ifnot (fun hx => ?_) fun hx => ⟨i, rfl, hai, hib, hS, fun _ => of_decide_eq_true hx, h⟩
    have hx := of_decide_eq_false hx
    refine leti (y := ((i + 1 : Nat) : Int)) (by rw [wrap_i64 (by omega) (by omega)]; omega) ⟨_, by omega, i + 1, rfl, rfl, by omega, by omega, fun s t h1 h2 h3 => ?_, h⟩
    by_cases et : t = i
    · rw [et]
      by_cases es : s = i - 1
      · rw [es]; omega
      · exact Int.le_trans (hS s (i - 1) h1 (by omega) (by omega)) (by omega)
    · exact hS s t h1 h2 (by omega)
  clear h hS hai hib
  rintro _ w' ⟨i, rfl, hai, hib, hS, hlt2, h⟩
  refine ifq (fun e => ?_) fun hne => ?_
  · have : i = b := by omega
    subst this
    exact hk D' true _ hM (fun _ => hS) h
  refine ifd (fun _ => hk D' false _ hM (fun e => by cases e) h) fun hge => ?_
  rw [show IntKind.i64.wrap ((i : Int) - 1) = ((i - 1 : Nat) : Int) by rw [wrap_i64 (by omega) (by omega)]; omega]
  have l := lD hM
  have hx0 := hlt2 (by omega)
  have h := h.drew
  refine h.arrR .head l (by omega) ?_
  refine h.arrR .head l (by omega) ?_
  refine h.arrW .head l (by omega) fun w' h => ?_
  refine h.arrW .head (by rw [List.length_set]; exact l) (by omega) fun w' h => ?_
  have h : St c w' (own 3 1 A n k ((swp D' i (i - 1)).flatMap iv) :: L) := h
  have sa := fun t => swp_at (D := D') (i := i) (j := i - 1) (by omega) (by omega) t
  have hM1 : Mix a b D (swp D' i (i - 1)) := hM.trans (Mix.swp ⟨by omega, by omega⟩ ⟨by omega, by omega⟩ (by omega))
  have hI : InsP a (i - 1) (i - 1) (swp D' i (i - 1)) := ⟨fun s t h1 h2 h3 h4 h5 => by
    rw [sa, sa, if_neg h4, if_neg (by omega), if_neg h5, if_neg (by omega)]
    exact hS s t h1 h2 (by omega), fun t h1 h2 => by omega⟩
  generalize swp D' i (i - 1) = D1 at *
  refine ⟨fun w' => ∃ D' : List Int, Mix a b D D' ∧ SrtR a i D' ∧ St c w' (own 3 1 A n k (D'.flatMap iv) :: L), ?_, ?_⟩
  · refine ifd (fun _ => leti rfl ?_) fun hs => ⟨D1, hM1, fun s t h1 h2 h3 => by rw [wrap_i64 (by omega) (by omega)] at hs; omega, h⟩
    refine ⟨fun q x w' => ∃ (j' : Nat) (D' : List Int), x = j' ∧ q = j' ∧ a ≤ j' ∧ j' ≤ i - 1 ∧ Mix a b D D' ∧ InsP a (i - 1) j' D' ∧ St c w' (own 3 1 A n k (D'.flatMap iv) :: L), ⟨_, i - 1, D1, rfl, rfl, by omega, Nat.le_refl _, hM1, hI, h⟩, ?_⟩
    clear h
    rintro q _ w' ⟨j', D', rfl, rfl, haj, hji, hM, hI, h⟩
    have l := lD hM
    have fin : (a < q → at0 D' (q - 1) ≤ at0 D' q) → SrtR a i D' := fun hx => by
      have := hI.done ⟨haj, hji⟩ hx
      rwa [show i - 1 + 1 = i by omega] at this
    refine ifd (fun h1 => ?_) fun _ => ⟨D', hM, fin (fun e => by omega), h⟩
    rw [show IntKind.i64.wrap ((q : Int) - 1) = ((q - 1 : Nat) : Int) by rw [wrap_i64 (by omega) (by omega)]; omega]
    have h := h.drew
    refine h.arrR .head l (by omega) ?_
    refine h.arrR .head l (by omega) ?_
    refine less_ok ?_
    (repeat (first | apply Exists.intro (α := Int) | apply Exists.intro (α := Bool) | apply Exists.intro (α := ByteArray) | (apply Exists.intro (α := Option Addr); apply Exists.intro (α := Nat); apply Exists.intro (α := Nat)) | apply Exists.intro (α := Option Addr) | apply Exists.intro (α := Value)))
    refine ⟨rfl, ?_⟩
    refine ifnot (fun hx => ?_) fun hx => ?_
    · have hx := of_decide_eq_false hx
      exact ⟨D', hM, fin (fun e => by omega), h⟩
    have hx := of_decide_eq_true hx
    have haq : a < q := by
      rcases Nat.lt_or_ge a q with h2 | h2
      · exact h2
      · have e : a = q := by omega
        subst e
        rcases hp.mix hM with h3 | h3
        · omega
        · have := h3 a (Nat.le_refl _) hab
          omega
    have h := h.drew
    refine h.arrR .head l (by omega) ?_
    refine h.arrR .head l (by omega) ?_
    refine h.arrW .head l (by omega) fun w' h => ?_
    refine h.arrW .head (by rw [List.length_set]; exact l) (by omega) fun w' h => ?_
    exact leti rfl ⟨q - 1, by omega, q - 1, swp D' q (q - 1), rfl, rfl, by omega, by omega, hM.trans (Mix.swp ⟨by omega, by omega⟩ ⟨by omega, by omega⟩ (by omega)), hI.step ⟨haq, hji⟩ hx (by omega), h⟩
  clear h
  rintro w' ⟨D', hM, hS, h⟩
  have nx : IntKind.i64.wrap (j + 1) = j + 1 := wrap_i64 (by omega) (by omega)
  refine ifd (fun _ => leti (y := ((i + 1 : Nat) : Int)) (by rw [wrap_i64 (by omega) (by omega)]; omega) ?_) fun _ => leti nx ⟨_, by omega, i, D', rfl, by omega, by omega, rfl, hai, hib, hM, hS, h⟩
  refine ⟨fun q x w' => ∃ (j' : Nat) (D' : List Int), x = j' ∧ q = b - j' ∧ i < j' ∧ j' ≤ b ∧ Mix a b D D' ∧ SrtR a i D' ∧ St c w' (own 3 1 A n k (D'.flatMap iv) :: L), ⟨_, i + 1, D', rfl, rfl, by omega, by omega, hM, hS, h⟩, ?_⟩
  clear h
  rintro q _ w' ⟨y, D', rfl, rfl, hiy, hyb, hM, hS, h⟩
  have l := lD hM
  refine ifd (fun h1 => ?_) fun _ => leti nx ⟨_, by omega, i, D', rfl, by omega, by omega, rfl, hai, hib, hM, hS, h⟩
  rw [show IntKind.i64.wrap ((y : Int) - 1) = ((y - 1 : Nat) : Int) by rw [wrap_i64 (by omega) (by omega)]; omega]
  have h := h.drew
  refine h.arrR .head l (by omega) ?_
  refine h.arrR .head l (by omega) ?_
  refine less_ok ?_
  (repeat (first | apply Exists.intro (α := Int) | apply Exists.intro (α := Bool) | apply Exists.intro (α := ByteArray) | (apply Exists.intro (α := Option Addr); apply Exists.intro (α := Nat); apply Exists.intro (α := Nat)) | apply Exists.intro (α := Option Addr) | apply Exists.intro (α := Value)))
  refine ⟨rfl, ?_⟩
  refine ifnot (fun hx => leti nx ⟨_, by omega, i, D', rfl, by omega, by omega, rfl, hai, hib, hM, hS, h⟩) fun hx => ?_
  have sa := fun t => swp_at (D := D') (i := y) (j := y - 1) (by omega) (by omega) t
  have h := h.drew
  refine h.arrR .head l (by omega) ?_
  refine h.arrR .head l (by omega) ?_
  refine h.arrW .head l (by omega) fun w' h => ?_
  refine h.arrW .head (by rw [List.length_set]; exact l) (by omega) fun w' h => ?_
  exact leti (y := ((y + 1 : Nat) : Int)) (by rw [wrap_i64 (by omega) (by omega)]; omega) ⟨_, by omega, y + 1, swp D' y (y - 1), rfl, rfl, by omega, by omega, hM.trans (Mix.swp ⟨by omega, by omega⟩ ⟨by omega, by omega⟩ (by omega)), fun s t h1 h2 h3 => by
    rw [sa, sa, if_neg (by omega), if_neg (by omega), if_neg (by omega), if_neg (by omega)]
    exact hS s t h1 h2 h3, h⟩
end
end Go.Br

/- slices.Sort of numbers: ranges that are put together. -/
set_option linter.unusedVariables false
set_option linter.unusedSimpArgs false
set_option linter.unnecessarySimpa false
namespace Go.Br
open Go
attribute [local irreducible] Addr.add RD RDS RUN RUNU NILC LETB CALL CALLX CALLV

/-- What stands ahead of a place isn't above what stands from it on. -/
def Cut (x a b : Nat) (D : List Int) : Prop := ∀ s t, a ≤ s → s < x → x ≤ t → t < b → at0 D s ≤ at0 D t
theorem Cut.mix {x A B a b : Nat} {D D' : List Int} (h : Cut x A B D) (hM : Mix a b D D') (hA : A ≤ a) (hB : b ≤ B) (hx : x ≤ a ∨ b ≤ x) : Cut x A B D' := fun s t h1 h2 h3 h4 => by
  have key : ∀ u, A ≤ u → u < B → ∃ v, at0 D' u = at0 D v ∧ A ≤ v ∧ v < B ∧ (u < x → v < x) ∧ (x ≤ u → x ≤ v) := fun u u1 u2 => by
    by_cases e : a ≤ u ∧ u < b
    · obtain ⟨v, v1, v2, v3⟩ := hM.sub u e.1 e.2
      exact ⟨v, v3, by omega, by omega, by omega, by omega⟩
    · exact ⟨u, hM.out u (by omega), u1, u2, id, id⟩
  obtain ⟨v, e1, v1, v2, v3, v4⟩ := key s h1 (by omega)
  obtain ⟨u, e2, u1, u2, u3, u4⟩ := key t (by omega) h4
  rw [e1, e2]
  exact h v u v1 (v3 h2) (u4 h3) u2
theorem SrtR.mix {x y a b : Nat} {D D' : List Int} (h : SrtR x y D) (hM : Mix a b D D') (hx : y ≤ a ∨ b ≤ x) : SrtR x y D' := fun s t h1 h2 h3 => by
  rw [hM.out s (by omega), hM.out t (by omega)]
  exact h s t h1 h2 h3
theorem SrtR.join {x y z : Nat} {D : List Int} (h : SrtR x y D) (h' : SrtR y z D) (hc : Cut y x z D) : SrtR x z D := fun s t h1 h2 h3 => by
  by_cases e1 : t < y
  · exact h s t h1 h2 e1
  · by_cases e2 : y ≤ s
    · exact h' s t e2 h2 h3
    · exact hc s t h1 (by omega) (by omega) h3
theorem SrtR.one (x : Nat) (D : List Int) : SrtR x (x + 1) D := fun s t h1 h2 h3 => by omega
theorem SrtR.none (x : Nat) (D : List Int) : SrtR x x D := fun s t h1 h2 h3 => by omega
theorem Cut.sub {x A B a b : Nat} {D : List Int} (h : Cut x A B D) (ha : A ≤ a) (hb : b ≤ B) : Cut x a b D := fun s t h1 h2 h3 h4 => h s t (by omega) h2 h3 (by omega)
/-- Where the sort is: between two places it isn't done yet. -/
structure PQ (A B a b : Nat) (D D' : List Int) : Prop where
  mix : Mix A B D D'
  Aa : A ≤ a
  ab : a ≤ b
  bB : b ≤ B
  lo : SrtR A a D'
  lc : Cut a A B D'
  hi : SrtR b B D'
  hc : Cut b A B D'
  pre : Pre A B D'
theorem PQ.start {A B : Nat} {D : List Int} (h : Pre A B D) (hab : A ≤ B) : PQ A B A B D D :=
  ⟨.refl _ _ _, Nat.le_refl _, hab, Nat.le_refl _, .none _ _, fun s t h1 h2 h3 h4 => by omega, .none _ _, fun s t h1 h2 h3 h4 => by omega, h⟩
theorem PQ.here {A B a b : Nat} {D D' : List Int} (h : PQ A B a b D D') : Pre a b D' := by
  have := h.Aa; have := h.bB
  by_cases e : A = a
  · subst e
    rcases h.pre with h1 | h1
    · exact .inl h1
    · exact .inr fun t t1 t2 => h1 t t1 (by omega)
  · exact .inr fun t t1 t2 => h.lc (a - 1) t (by omega) (by omega) t1 (by omega)
theorem PQ.mixed {A B a b : Nat} {D D' D'' : List Int} (h : PQ A B a b D D') (hM : Mix a b D' D'') : PQ A B a b D D'' := by
  have := h.Aa; have := h.bB
  exact ⟨h.mix.trans (hM.mono h.Aa h.bB), h.Aa, h.ab, h.bB, h.lo.mix hM (.inl (by omega)), h.lc.mix hM h.Aa h.bB (.inl (by omega)), h.hi.mix hM (.inr (by omega)), h.hc.mix hM h.Aa h.bB (.inr (by omega)), h.pre.mix (hM.mono h.Aa h.bB)⟩
theorem PQ.fin {A B a b : Nat} {D D' D'' : List Int} (h : PQ A B a b D D') (hM : Mix a b D' D'') (hS : SrtR a b D'') : Mix A B D D'' ∧ SrtR A B D'' := by
  have h' := h.mixed hM
  exact ⟨h'.mix, (h'.lo.join hS (h'.lc.sub (Nat.le_refl _) h.bB)).join h'.hi h'.hc⟩
theorem PQ.equal {A B a b m p : Nat} {D D' D'' : List Int} (h : PQ A B a b D D') (hM : Mix a b D' D'') (ham : a < m) (hmb : m ≤ b) (ha : 0 < a) (hp : a ≤ p ∧ p < b) (hx : at0 D' p ≤ at0 D' (a - 1)) (h1 : ∀ t, a ≤ t → t < m → at0 D'' t ≤ at0 D' p) (h2 : ∀ t, m ≤ t → t < b → at0 D' p < at0 D'' t) : PQ A B m b D D'' := by
  have h' := h.mixed hM
  have := h.Aa; have := h.bB
  have ge : ∀ t, a ≤ t → t < b → at0 D' p ≤ at0 D'' t := fun t t1 t2 => by
    obtain ⟨s, s1, s2, s3⟩ := hM.sub t t1 t2
    rw [s3]
    rcases h.here with e | e
    · omega
    · exact Int.le_trans hx (e s s1 s2)
  refine ⟨h'.mix, by omega, hmb, h.bB, h'.lo.join (fun s t q1 q2 q3 => ?_) (h'.lc.sub (Nat.le_refl _) (by omega)), fun s t q1 q2 q3 q4 => ?_, h'.hi, h'.hc, h'.pre⟩
  · have e1 := h1 s q1 (by omega)
    have e2 := ge t (by omega) (by omega)
    omega
  · by_cases e : s < a
    · exact h'.lc s t q1 e (by omega) q4
    · by_cases e2 : t < b
      · have e1 := h1 s (by omega) q2
        have e3 := h2 t q3 e2
        omega
      · exact h'.hc s t q1 (by omega) (by omega) q4
structure Part (a b m : Nat) (D D' : List Int) : Prop where
  mix : Mix a b D D'
  am : a ≤ m
  mb : m < b
  lt : ∀ t, a ≤ t → t < m → at0 D' t ≤ at0 D' m
  ge : ∀ t, m < t → t < b → at0 D' m ≤ at0 D' t
theorem PQ.part {A B a b m : Nat} {D D' D'' : List Int} (h : PQ A B a b D D') (hP : Part a b m D' D'') : Cut m A B D'' ∧ Cut (m + 1) A B D'' := by
  have h' := h.mixed hP.mix
  have := h.Aa; have := h.bB; have := hP.am; have := hP.mb
  have lm : ∀ s, A ≤ s → s ≤ m → at0 D'' s ≤ at0 D'' m := fun s s1 s2 => by
    by_cases e : s = m
    · rw [e]; exact Int.le_refl _
    by_cases e : s < a
    · exact h'.lc s m s1 e (by omega) (by omega)
    · exact hP.lt s (by omega) (by omega)
  have ml : ∀ t, m ≤ t → t < B → at0 D'' m ≤ at0 D'' t := fun t t1 t2 => by
    by_cases e : t = m
    · rw [e]; exact Int.le_refl _
    by_cases e : t < b
    · exact hP.ge t (by omega) e
    · exact h'.hc m t (by omega) (by omega) (by omega) t2
  exact ⟨fun s t h1 h2 h3 h4 => Int.le_trans (lm s h1 (by omega)) (ml t h3 h4), fun s t h1 h2 h3 h4 => Int.le_trans (lm s h1 (by omega)) (ml t (by omega) h4)⟩
theorem Part.left {a b m : Nat} {D D' : List Int} (h : Part a b m D D') (hp : Pre a b D) : Pre a m D' := by
  have := h.mb
  rcases hp.mix h.mix with e | e
  · exact .inl e
  · exact .inr fun t h1 h2 => e t h1 (by omega)
theorem Part.right {a b m : Nat} {D D' : List Int} (h : Part a b m D D') : Pre (m + 1) b D' := .inr fun t h1 h2 => h.ge t (by omega) h2
theorem PQ.left {A B a b m : Nat} {D D' D2 D3 : List Int} (h : PQ A B a b D D') (hP : Part a b m D' D2) (hM : Mix a m D2 D3) (hS : SrtR a m D3) : PQ A B (m + 1) b D D3 := by
  have h2 := h.mixed hP.mix
  have := h.Aa; have := h.bB; have := hP.am; have := hP.mb
  have h3 := h2.mixed (hM.mono (Nat.le_refl _) (by omega))
  obtain ⟨c1, c2⟩ := h.part hP
  have c1 := c1.mix hM h.Aa (by omega) (.inr (Nat.le_refl _))
  have c2 := c2.mix hM h.Aa (by omega) (.inr (Nat.le_succ _))
  exact ⟨h3.mix, by omega, by omega, h.bB, (h3.lo.join hS (h3.lc.sub (Nat.le_refl _) (by omega))).join (.one _ _) (c1.sub (Nat.le_refl _) (by omega)), c2, h3.hi, h3.hc, h3.pre⟩
theorem PQ.right {A B a b m : Nat} {D D' D2 D3 : List Int} (h : PQ A B a b D D') (hP : Part a b m D' D2) (hM : Mix (m + 1) b D2 D3) (hS : SrtR (m + 1) b D3) : PQ A B a m D D3 := by
  have h2 := h.mixed hP.mix
  have := h.Aa; have := h.bB; have := hP.am; have := hP.mb
  have h3 := h2.mixed (hM.mono (by omega) (Nat.le_refl _))
  obtain ⟨c1, c2⟩ := h.part hP
  have c1 := c1.mix hM (by omega) h.bB (.inl (Nat.le_succ _))
  have c2 := c2.mix hM (by omega) h.bB (.inl (Nat.le_refl _))
  exact ⟨h3.mix, h.Aa, hP.am, by omega, h3.lo, h3.lc, (SrtR.one m D3).join (hS.join h3.hi (h3.hc.sub (by omega) (Nat.le_refl _))) (c2.sub (by omega) (Nat.le_refl _)), c1, h3.pre⟩
end Go.Br

/- What the code of some functions says, as the core reads it; each reading is checked by the kernel. -/
set_option linter.unusedVariables false
set_option maxRecDepth 100000
namespace Go.Br
open Go Go.Proofs

/-- slices.breakPatternsOrdered[int] -/
def N45 (data : Option Addr) (dataN dataC : Nat) (a : Int) (b : Int) (w : World) (Q : Value → World → Prop) : Prop :=
 LETI (IntKind.i64.wrap (b - a)) fun length =>
 IFB (decide (length ≥ (8 : Int)))
 (RUNA PG (Instr.alloc 97 true (.tuple #[])) w fun a7 w1 =>
 RUNU PG (storeVar 97 a7 (.int .u64 (IntKind.u64.wrap length))) w1 fun w2 =>
 CALL PG 58 [(.int .i64 length)] w2 fun v w3 =>
 ∃ x19 : Int, v = (.int .u64 x19) ∧
 (LETI x19 fun modulus =>
 NEED ((4 : Int) ≠ 0)
 (LETI (IntKind.i64.wrap ((IntKind.i64.wrap (a + (IntKind.i64.wrap ((IntKind.i64.wrap (Int.tdiv length (4 : Int))) * (2 : Int))))) - (1 : Int))) fun idx =>
 ∃ I : Nat → Int → World → Prop,
 (∃ m, I m idx w3) ∧
 (∀ m1 (idx1 : Int) (w4 : World), I m1 idx1 w4 → (NEED ((4 : Int) ≠ 0)
 (IFB (decide (idx1 ≤ (IntKind.i64.wrap ((IntKind.i64.wrap (a + (IntKind.i64.wrap ((IntKind.i64.wrap (Int.tdiv length (4 : Int))) * (2 : Int))))) + (1 : Int)))))
 (CALL PG 59 [(.pointer (some a7))] w4 fun v1 w5 =>
 ∃ x36 : Int, v1 = (.int .u64 x36) ∧
 (LETI (IntKind.i64.wrap (IntKind.u64.wrap (BitVec.ofInt (IntKind.u64.bits) x36 &&& BitVec.ofInt (IntKind.u64.bits) (IntKind.u64.wrap (modulus - (1 : Int)))).toNat)) fun other =>
 ∃ R : Int → World → Prop,
 (IFB (decide (other ≥ length))
 (LETI (IntKind.i64.wrap (other - length)) fun other1 =>
 R other1 w5)
 (R other w5)) ∧
 (∀ (other2 : Int) (w6 : World), R other2 w6 → (IDX data dataN (IntKind.i64.wrap (a + other2)) fun a57 =>
 RDI PG (loadVar 3 (Addr.add a57 (Int.toNat (IntKind.i64.wrap (a + other2)) * 1))) .i64 (w6.drew) fun x58 =>
 IDX data dataN idx1 fun a61 =>
 RDI PG (loadVar 3 (Addr.add a61 (Int.toNat idx1 * 1))) .i64 (w6.drew) fun x62 =>
 IDX data dataN idx1 fun a63 =>
 RUNU PG (storeVar 3 (Addr.add a63 (Int.toNat idx1 * 1)) (.int .i64 x58)) (w6.drew) fun w7 =>
 IDX data dataN (IntKind.i64.wrap (a + other2)) fun a64 =>
 RUNU PG (storeVar 3 (Addr.add a64 (Int.toNat (IntKind.i64.wrap (a + other2)) * 1)) (.int .i64 x62)) w7 fun w8 =>
 LETI (IntKind.i64.wrap (idx1 + (1 : Int))) fun idx2 =>
 ∃ m2, m2 < m1 ∧ I m2 idx2 w8))))
 (Q (.tuple #[]) w4)))))))
 (Q (.tuple #[]) w)
theorem eq45 : ∀ (data : Option Addr) (dataN dataC : Nat) (a : Int) (b : Int) (w : World) (Q : Value → World → Prop), vcF PG TB Tryd.f45 (.s .nil (.s .nil (.c (.s .nil (.s .nil (.s .nil (.u (.loop [(9, 3)] (.s .nil (.s (.u (.s .nil (.cut [(10, 3)] .nil .nil))) .nil))))))) .nil))) [(.slice data dataN dataC), (.int .i64 a), (.int .i64 b)] w Q = N45 data dataN dataC a b w Q := by intros; kernel_rfl
theorem call45 {data : Option Addr} {dataN dataC : Nat} {a : Int} {b : Int} {w : World} {Q : Value → World → Prop} (hN : N45 data dataN dataC a b w Q) : CALL PG 45 [(.slice data dataN dataC), (.int .i64 a), (.int .i64 b)] w Q := calls_vc tabOk Tryd.func45 (by rw [eq45]; exact hN)

/-- slices.nextPowerOfTwo -/
def N58 (length : Int) (w : World) (Q : Value → World → Prop) : Prop :=
 CALL PG 36 [(.int .u64 (IntKind.u64.wrap length))] w fun v w1 =>
 ∃ x5 : Int, v = (.int .i64 x5) ∧
 (NEED (0 ≤ x5)
 (LETI (shlN .u64 (1 : Int) x5) fun x2 =>
 Q (.int .u64 x2) w1))
theorem eq58 : ∀ (length : Int) (w : World) (Q : Value → World → Prop), vcF PG TB Tryd.f58 .nil [(.int .i64 length)] w Q = N58 length w Q := by intros; kernel_rfl
theorem call58 {length : Int} {w : World} {Q : Value → World → Prop} (hN : N58 length w Q) : CALL PG 58 [(.int .i64 length)] w Q := calls_vc tabOk Tryd.func58 (by rw [eq58]; exact hN)

end Go.Br

/- slices.Sort of numbers: how long a number is, and chance. -/
set_option linter.unusedVariables false
set_option linter.unusedSimpArgs false
set_option linter.unnecessarySimpa false
namespace Go.Br
open Go
instance biPdq9a : Zro PG 97 1 8 (.int .u64 0) := ⟨tiOf (by kernel_rfl)⟩
attribute [local irreducible] Addr.add RD RDS RUN RUNU NILC LETB CALL CALLX CALLV

/-- How often a number is halved till nothing is left. -/
def IsLen (x b : Nat) : Prop := x < 2 ^ b ∧ (0 < x → 2 ^ (b - 1) ≤ x) ∧ b ≤ 32
def tabOk8 (T : ByteArray) : Bool := T.size == 256 && (List.range 256).all fun z => z == 0 || (let t := sbyte T (z : Int); decide (1 ≤ t) && decide (t ≤ 8) && decide (2 ^ (t.toNat - 1) ≤ z) && decide (z < 2 ^ t.toNat))
theorem tab8 {T : ByteArray} (h : tabOk8 T = true) {z : Nat} (h0 : 0 < z) (h1 : z < 256) : ∃ t : Nat, sbyte T (z : Int) = (t : Int) ∧ 1 ≤ t ∧ t ≤ 8 ∧ 2 ^ (t - 1) ≤ z ∧ z < 2 ^ t := by
  unfold tabOk8 at h
  rw [Bool.and_eq_true] at h
  have := List.all_eq_true.1 h.2 z (List.mem_range.2 h1)
  have hz : (z == 0) = false := by simp; omega
  rw [hz, Bool.false_or] at this
  simp only [Bool.and_eq_true, decide_eq_true_eq] at this
  obtain ⟨⟨⟨a, b⟩, c⟩, d⟩ := this
  exact ⟨(sbyte T (z : Int)).toNat, by omega, by omega, by omega, c, d⟩
theorem two_cast (a : Nat) : ((2 : Int) ^ a) = ((2 ^ a : Nat) : Int) := by simp
theorem shrN_nat (k : IntKind) {x a : Nat} (h : a ≤ k.bits) : shrN k (x : Int) (a : Int) = ((x / 2 ^ a : Nat) : Int) := by
  unfold shrN
  rw [Int.toNat_natCast, Nat.min_eq_left h, two_cast, Int.fdiv_eq_ediv_of_nonneg _ (Int.natCast_nonneg _)]
  rfl
theorem shlN_nat (k : IntKind) {x a : Nat} (h : a ≤ k.bits) : shlN k (x : Int) (a : Int) = k.wrap ((x * 2 ^ a : Nat) : Int) := by
  unfold shlN
  rw [Int.toNat_natCast, Nat.min_eq_left h, two_cast]
  rfl
theorem wrap_u8 {n : Nat} (h : n < 256) : IntKind.u8.wrap (n : Int) = n := by
  unfold IntKind.wrap; simp [IntKind.bits, IntKind.signed] ; omega
theorem wrap_u64 {n : Nat} (h : n < 2 ^ 64) : IntKind.u64.wrap (n : Int) = n := by
  unfold IntKind.wrap; simp [IntKind.bits, IntKind.signed] ; omega

theorem len_of {x a z t : Nat} (h : x / 2 ^ a = z) (h1 : 1 ≤ t) (h2 : 2 ^ (t - 1) ≤ z) (h3 : z < 2 ^ t) : x < 2 ^ (a + t) ∧ 2 ^ (a + t - 1) ≤ x := by
  subst h
  constructor
  · rw [Nat.pow_add, Nat.mul_comm]; exact (Nat.div_lt_iff_lt_mul (Nat.two_pow_pos a)).1 h3
  · rw [show a + t - 1 = t - 1 + a by omega, Nat.pow_add]
    exact (Nat.le_div_iff_mul_le (Nat.two_pow_pos a)).1 h2

theorem len64E_ok {x : Nat} (h0 : 0 < x) (hx : x < 4294967296) {w : World} {Q : Value → World → Prop} (hk : ∀ b : Nat, IsLen x b → 1 ≤ b → Q (.int .i64 (b : Int)) w) : CALL PG 53 [.int .u64 (x : Int)] w Q := by
  refine call53 ?_
  unfold N53
  refine ⟨fun x2 n w1 => x2 = (x : Int) ∧ n = 0 ∧ w1 = w, ifdf (by omega) ⟨rfl, rfl, rfl⟩, ?_⟩
  rintro _ _ w1 ⟨rfl, rfl, rfl⟩
  refine ⟨fun x4 n2 w2 => ∃ y a : Nat, x4 = (y : Int) ∧ n2 = (a : Int) ∧ a ≤ 16 ∧ 0 < y ∧ y < 65536 ∧ x / 2 ^ a = y ∧ w2 = w1, ?_, ?_⟩
  · refine ifd (fun h => ⟨by decide, leti (shrN_nat (a := 16) .u64 (by decide)) (leti rfl ⟨x / 2 ^ 16, 16, rfl, by decide, by omega, by omega, by omega, rfl, rfl⟩)⟩) fun h => ⟨x, 0, rfl, rfl, by omega, h0, by omega, by simp, rfl⟩
  rintro _ _ w2 ⟨y, a, rfl, rfl, ha, hy0, hy, hd, rfl⟩
  have fin : ∀ (z a : Nat), 0 < z → z < 256 → a ≤ 24 → x / 2 ^ a = z → ∀ (T : ByteArray), tabOk8 T = true → (0 ≤ IntKind.u8.wrap (z : Int) ∧ IntKind.u8.wrap (z : Int) < T.size) ∧ Q (.int .i64 (IntKind.i64.wrap ((a : Int) + IntKind.i64.wrap (sbyte T (IntKind.u8.wrap (z : Int)))))) w2 := by
    intro z a hz0 hz ha hd T hT
    obtain ⟨t, ht, h1, h8, h2, h3⟩ := tab8 hT hz0 hz
    have hTs : T.size = 256 := by unfold tabOk8 at hT; rw [Bool.and_eq_true] at hT; simpa using hT.1
    rw [wrap_u8 hz, ht, wrap_i64 (n := (t : Int)) (by omega) (by omega), wrap_i64 (by omega) (by omega)]
    refine ⟨⟨by omega, by omega⟩, ?_⟩
    obtain ⟨l1, l2⟩ := len_of hd h1 h2 h3
    exact hk (a + t) ⟨l1, fun _ => l2, by
      have : a + t ≤ 32 := by
        rcases Nat.lt_or_ge 32 (a + t) with hgt | hle
        · have : 2 ^ 32 ≤ 2 ^ (a + t - 1) := Nat.pow_le_pow_right (by decide) (by omega)
          omega
        · exact hle
      exact this⟩ (by omega)
  refine ifd (fun h => ⟨by decide, leti (shrN_nat (a := 8) .u64 (by decide)) (leti (wrap_i64 (by omega) (by omega)) ?_)⟩) fun h => ?_
  · obtain ⟨c1, c2⟩ := fin (y / 2 ^ 8) (a + 8) (by omega) (by omega) (by omega) (by rw [Nat.pow_add, ← Nat.div_div_eq_div_mul, hd]) _ (by kernel_rfl)
    exact ⟨c1, c2⟩
  · obtain ⟨c1, c2⟩ := fin y a hy0 (by omega) (by omega) hd _ (by kernel_rfl)
    exact ⟨c1, c2⟩
theorem lenE_ok {x : Nat} (h0 : 0 < x) (hx : x < 4294967296) {w : World} {Q : Value → World → Prop} (hk : ∀ b : Nat, IsLen x b → 1 ≤ b → Q (.int .i64 (b : Int)) w) : CALL PG 36 [.int .u64 (x : Int)] w Q := by
  refine call36 ?_
  unfold N36
  exact len64E_ok h0 hx fun b h1 h2 => ⟨_, rfl, leti rfl (hk b h1 h2)⟩

theorem pow_ok {x : Nat} (h0 : 0 < x) (hx : x ≤ 1000000) {w : World} {Q : Value → World → Prop} (hk : ∀ m : Nat, 0 < m → m ≤ 2 * x → Q (.int .u64 (m : Int)) w) : CALL PG 58 [.int .i64 (x : Int)] w Q := by
  refine call58 ?_
  unfold N58
  rw [wrap_u64 (by omega)]
  refine lenE_ok h0 (by omega) fun b hb hb1 => ⟨_, rfl, by omega, ?_⟩
  obtain ⟨l1, l2, l3⟩ := hb
  have l2 := l2 h0
  have e : 2 ^ b = 2 * 2 ^ (b - 1) := by
    obtain ⟨d, rfl⟩ : ∃ d, b = d + 1 := ⟨b - 1, by omega⟩
    rw [Nat.pow_succ, Nat.add_sub_cancel]; omega
  have hp := Nat.two_pow_pos b
  refine leti (y := ((2 ^ b : Nat) : Int)) ?_ (hk (2 ^ b) hp (by omega))
  have := shlN_nat .u64 (x := 1) (a := b) (by show b ≤ 64; omega)
  rw [Nat.one_mul] at this
  rw [show (1 : Int) = ((1 : Nat) : Int) from rfl, this, wrap_u64 (by omega)]
theorem and_lt {m : Nat} {x : Int} (h0 : 0 < m) (h1 : m ≤ 2000000) : ∃ o : Nat, IntKind.i64.wrap (IntKind.u64.wrap (BitVec.ofInt (IntKind.u64.bits) x &&& BitVec.ofInt (IntKind.u64.bits) (IntKind.u64.wrap ((m : Int) - (1 : Int)))).toNat) = (o : Int) ∧ o < m := by
  have e : IntKind.u64.wrap ((m : Int) - (1 : Int)) = ((m - 1 : Nat) : Int) := by rw [wrapU64]; omega
  rw [e]
  have hle : (BitVec.ofInt (IntKind.u64.bits) x &&& BitVec.ofInt (IntKind.u64.bits) ((m - 1 : Nat) : Int)).toNat ≤ m - 1 := by
    rw [BitVec.toNat_and]
    refine Nat.le_trans Nat.and_le_right ?_
    rw [BitVec.toNat_ofInt]
    have : (2 ^ IntKind.u64.bits : Nat) = 18446744073709551616 := by decide
    rw [this]
    omega
  generalize (BitVec.ofInt (IntKind.u64.bits) x &&& BitVec.ofInt (IntKind.u64.bits) ((m - 1 : Nat) : Int)).toNat = o at *
  exact ⟨o, by rw [wrap_u64 (by omega), wrap_i64 (by omega) (by omega)], by omega⟩
section
variable {c : Ctx} {w : World} {L R : List SA} {A : Option Addr} {n k : Nat} {D : List Int}
theorem break_ok (h : St c w (own 3 1 A n k (D.flatMap iv) :: L)) (hn : D.length = n) (hb : n ≤ 1000000) {a b : Nat} (hab : a + 12 < b) (hbn : b ≤ n) {Q : Value → World → Prop}
    (hk : ∀ D' w', Mix a b D D' → St c w' (own 3 1 A n k (D'.flatMap iv) :: L) → Q (.tuple #[]) w') :
    CALL PG 45 [.slice A n k, .int .i64 (a : Int), .int .i64 (b : Int)] w Q := by
  have lD : ∀ {D' : List Int}, Mix a b D D' → D'.length = n := fun h => by rw [h.len, hn]
  refine call45 ?_
  unfold N45
  refine leti (y := ((b - a : Nat) : Int)) (by rw [wrap_i64 (by omega) (by omega)]; omega) ?_
  refine ifdt (by omega) ?_
  refine h.allocZV fun q w' h => ?_
  refine h.stV fun w' h => ?_
  refine pow_ok (by omega) (by omega) fun m hm0 hm => ?_
  (repeat (first | apply Exists.intro (α := Int) | apply Exists.intro (α := Bool) | apply Exists.intro (α := ByteArray) | (apply Exists.intro (α := Option Addr); apply Exists.intro (α := Nat); apply Exists.intro (α := Nat)) | apply Exists.intro (α := Option Addr) | apply Exists.intro (α := Value)))
  refine ⟨rfl, ?_⟩
  refine leti rfl ⟨by decide, ?_⟩
  have ed : IntKind.i64.wrap (a + (IntKind.i64.wrap ((IntKind.i64.wrap (Int.tdiv ((b - a : Nat) : Int) (4 : Int))) * (2 : Int)))) = ((a + 2 * ((b - a) / 4) : Nat) : Int) := by
    rw [Int.tdiv_eq_ediv_of_nonneg (by omega), wrap_i64 (n := ((b - a : Nat) : Int) / 4) (by omega) (by omega), wrap_i64 (n := ((b - a : Nat) : Int) / 4 * 2) (by omega) (by omega), wrap_i64 (by omega) (by omega)]
    omega
  rw [ed]
  generalize hd : (b - a) / 4 = e at *
  have he : 3 ≤ e ∧ 4 * e ≤ b - a := by omega
  refine leti (y := ((a + 2 * e - 1 : Nat) : Int)) (by rw [wrap_i64 (by omega) (by omega)]; omega) ?_
  rw [show IntKind.i64.wrap (((a + 2 * e : Nat) : Int) + 1) = ((a + 2 * e + 1 : Nat) : Int) by rw [wrap_i64 (by omega) (by omega)]; omega]
  refine ⟨fun j x w' => ∃ (i : Nat) (s : Int) (D' : List Int), x = i ∧ j = a + 2 * e + 2 - i ∧ a + 2 * e - 1 ≤ i ∧ i ≤ a + 2 * e + 2 ∧ Mix a b D D' ∧ St c w' (Br.blk q 97 [.int .u64 s] :: own 3 1 A n k (D'.flatMap iv) :: L), ⟨_, a + 2 * e - 1, _, D, rfl, rfl, by omega, by omega, .refl _ _ _, h⟩, ?_⟩
  clear h
  rintro j _ w' ⟨i, s, D', rfl, rfl, hi0, hi1, hM, h⟩
  refine ⟨by decide, ?_⟩
  refine ifd (fun hle => ?_) fun _ => hk D' _ hM h.drop
  refine xnext_ok h .head fun x w' x0 x1 h => ?_
  (repeat (first | apply Exists.intro (α := Int) | apply Exists.intro (α := Bool) | apply Exists.intro (α := ByteArray) | (apply Exists.intro (α := Option Addr); apply Exists.intro (α := Nat); apply Exists.intro (α := Nat)) | apply Exists.intro (α := Option Addr) | apply Exists.intro (α := Value)))
  refine ⟨rfl, ?_⟩
  obtain ⟨o, eo, ho⟩ := and_lt (x := x) hm0 (by omega)
  refine leti eo ?_
  refine ⟨fun y w'' => ∃ o' : Nat, y = o' ∧ o' < b - a ∧ w'' = w', ifd (fun hge => leti (y := ((o - (b - a) : Nat) : Int)) (by rw [wrap_i64 (by omega) (by omega)]; omega) ⟨_, rfl, by omega, rfl⟩) fun hlt => ⟨o, rfl, by omega, rfl⟩, ?_⟩
  rintro _ w' ⟨o', rfl, ho', rfl⟩
  rw [show IntKind.i64.wrap ((a : Int) + (o' : Int)) = ((a + o' : Nat) : Int) by rw [wrap_i64 (by omega) (by omega)]; omega]
  have h := h.swap.drew
  have l := lD hM
  refine h.arrR .head l (by omega) ?_
  refine h.arrR .head l (by omega) ?_
  refine h.arrW .head l (by omega) fun w' h => ?_
  refine h.arrW .head (by rw [List.length_set]; exact l) (by omega) fun w' h => ?_
  exact leti (y := ((i + 1 : Nat) : Int)) (by rw [wrap_i64 (by omega) (by omega)]; omega) ⟨_, by omega, i + 1, x, swp D' i (a + o'), rfl, rfl, by omega, by omega, hM.trans (Mix.swp ⟨by omega, by omega⟩ ⟨by omega, by omega⟩ (by omega)), h.swap⟩
end
end Go.Br

/- slices.Sort of numbers, of any length. -/
set_option linter.unusedVariables false
set_option linter.unusedSimpArgs false
set_option linter.unnecessarySimpa false
namespace Go.Br
open Go
attribute [local irreducible] Addr.add RD RDS RUN RUNU NILC LETB CALL CALLX CALLV

theorem SrtR.srt {D : List Int} (h : SrtR 0 D.length D) : Srt fI D := by
  refine List.pairwise_iff_getElem.2 fun i j hi hj hij => ?_
  have := h i j (by omega) hij hj
  have e1 := at0_get hi
  have e2 := at0_get hj
  rw [List.getElem?_eq_getElem hi] at e1
  rw [List.getElem?_eq_getElem hj] at e2
  injection e1 with e1
  injection e2 with e2
  unfold Le fI
  omega
section
variable {c : Ctx} {A : Option Addr} {n k : Nat}
theorem pdq_ok (N : Nat) : ∀ {w : World} {L : List SA} {D : List Int} {a b : Nat} {lim : Int}, St c w (own 3 1 A n k (D.flatMap iv) :: L) → D.length = n → n ≤ 1000000 → a ≤ b → b ≤ n → b - a ≤ N → Pre a b D → ∀ {Q : Value → World → Prop},
    (∀ D' w', Mix a b D D' → SrtR a b D' → St c w' (own 3 1 A n k (D'.flatMap iv) :: L) → Q (.tuple #[]) w') →
    CALL PG 35 [.slice A n k, .int .i64 (a : Int), .int .i64 (b : Int), .int .i64 lim] w Q := by
  induction N using Nat.strongRecOn with
  | ind N ih =>
  intro w L D A0 B0 lim h hn hb hab hbn hN hpre Q hk
  refine call35 ?_
  unfold N35
  refine ⟨fun m i j l x y w' => ∃ (a b : Nat) (D' : List Int), i = a ∧ j = b ∧ m = b - a ∧ PQ A0 B0 a b D D' ∧ St c w' (own 3 1 A n k (D'.flatMap iv) :: L), ⟨_, A0, B0, D, rfl, rfl, rfl, .start hpre hab, h⟩, ?_⟩
  clear h
  rintro _ _ _ lim bal prt w' ⟨a, b, D', rfl, rfl, rfl, hP, h⟩
  have lD : D'.length = n := by rw [hP.mix.len, hn]
  have hAa := hP.Aa
  have hab := hP.ab
  have hbB := hP.bB
  refine leti (y := ((b - a : Nat) : Int)) (by rw [wrap_i64 (by omega) (by omega)]; omega) ?_
  refine ifd (fun hle => ?_) fun hgt => ?_
  · refine insr_ok h lD hb hab (by omega) fun D2 w' hM hS h => ⟨rfl, ?_⟩
    obtain ⟨m1, s1⟩ := hP.fin hM hS
    exact hk D2 _ m1 s1 h
  have hgt : a + 12 < b := by omega
  refine ifq (fun _ => ?_) fun _ => ?_
  · refine heap_ok h lD hb (by omega) (by omega) fun D2 w' hM hS h => ⟨rfl, ?_⟩
    obtain ⟨m1, s1⟩ := hP.fin hM hS
    exact hk D2 _ m1 s1 h
  refine ⟨fun l w' => ∃ D' : List Int, PQ A0 B0 a b D D' ∧ St c w' (own 3 1 A n k (D'.flatMap iv) :: L), ?_, ?_⟩
  · refine ifnot (fun _ => ?_) fun _ => ⟨D', hP, h⟩
    refine break_ok h lD hb hgt (by omega) fun D2 w' hM h => ⟨rfl, leti rfl ⟨D2, hP.mixed hM, h⟩⟩
  clear h hP lD
  rintro lim w' ⟨D', hP, h⟩
  have lD : D'.length = n := by rw [hP.mix.len, hn]
  refine choose_ok h lD hb hgt (by omega) fun p hint w' hp h => ?_
  (repeat (first | apply Exists.intro (α := Int) | apply Exists.intro (α := Bool) | apply Exists.intro (α := ByteArray) | (apply Exists.intro (α := Option Addr); apply Exists.intro (α := Nat); apply Exists.intro (α := Nat)) | apply Exists.intro (α := Option Addr) | apply Exists.intro (α := Value)))
  refine ⟨rfl, ?_⟩
  refine leti rfl (leti rfl ?_)
  refine ⟨fun l hh w' => ∃ (p : Nat) (D' : List Int), l = p ∧ a ≤ p ∧ p < b ∧ PQ A0 B0 a b D D' ∧ St c w' (own 3 1 A n k (D'.flatMap iv) :: L), ?_, ?_⟩
  · refine ifq (fun _ => ?_) fun _ => ⟨p, D', rfl, hp.1, hp.2, hP, h⟩
    refine reverse_ok h lD hb (by omega) (by omega) fun D2 w' hM h => ⟨rfl, ?_⟩
    exact leti (y := ((b - 1 - (p - a) : Nat) : Int)) (by rw [wrap_i64 (n := (b : Int) - 1) (by omega) (by omega), wrap_i64 (n := (p : Int) - a) (by omega) (by omega), wrap_i64 (by omega) (by omega)]; omega) ⟨_, D2, rfl, by omega, by omega, hP.mixed hM, h⟩
  clear h hP lD hp
  rintro _ hint w' ⟨p, D', rfl, hp1, hp2, hP, h⟩
  have lD : D'.length = n := by rw [hP.mix.len, hn]
  refine ⟨fun w' => ∃ (D' : List Int), PQ A0 B0 a b D D' ∧ St c w' (own 3 1 A n k (D'.flatMap iv) :: L), ?_, ?_⟩
  · refine ifb (fun _ => ifb (fun _ => ifq (fun _ => ?_) fun _ => ⟨D', hP, h⟩) fun _ => ⟨D', hP, h⟩) fun _ => ⟨D', hP, h⟩
    refine partial_ok h lD hb (by omega) (by omega) hP.here fun D2 bb w' hM hS h => ?_
    (repeat (first | apply Exists.intro (α := Int) | apply Exists.intro (α := Bool) | apply Exists.intro (α := ByteArray) | (apply Exists.intro (α := Option Addr); apply Exists.intro (α := Nat); apply Exists.intro (α := Nat)) | apply Exists.intro (α := Option Addr) | apply Exists.intro (α := Value)))
    refine ⟨rfl, ?_⟩
    refine ifb (fun e => ?_) fun _ => ⟨D2, hP.mixed hM, h⟩
    obtain ⟨m1, s1⟩ := hP.fin hM (hS e)
    exact hk D2 _ m1 s1 h
  clear h hP lD
  rintro w' ⟨D', hP, h⟩
  have lD : D'.length = n := by rw [hP.mix.len, hn]
  refine ⟨fun i w' => i = (a : Int) ∧ St c w' (own 3 1 A n k (D'.flatMap iv) :: L), ?_, ?_⟩
  · refine ifd (fun ha => ?_) fun _ => ⟨rfl, h.drew⟩
    rw [show IntKind.i64.wrap ((a : Int) - 1) = ((a - 1 : Nat) : Int) by rw [wrap_i64 (by omega) (by omega)]; omega]
    have h := h.drew
    refine h.arrR .head lD (by omega) ?_
    refine h.arrR .head lD (by omega) ?_
    refine less_ok ?_
    (repeat (first | apply Exists.intro (α := Int) | apply Exists.intro (α := Bool) | apply Exists.intro (α := ByteArray) | (apply Exists.intro (α := Option Addr); apply Exists.intro (α := Nat); apply Exists.intro (α := Nat)) | apply Exists.intro (α := Option Addr) | apply Exists.intro (α := Value)))
    refine ⟨rfl, ?_⟩
    refine ifnot (fun hx => ?_) fun _ => ⟨rfl, h⟩
    have hx := of_decide_eq_false hx
    refine parteq_ok h lD hb ⟨hp1, hp2⟩ (by omega) fun D2 m w' hM ham hmb h1 h2 h => ?_
    (repeat (first | apply Exists.intro (α := Int) | apply Exists.intro (α := Bool) | apply Exists.intro (α := ByteArray) | (apply Exists.intro (α := Option Addr); apply Exists.intro (α := Nat); apply Exists.intro (α := Nat)) | apply Exists.intro (α := Option Addr) | apply Exists.intro (α := Value)))
    refine ⟨rfl, ?_⟩
    exact leti rfl (leti rfl ⟨b - m, by omega, m, b, D2, rfl, rfl, rfl, hP.equal hM ham hmb (by omega) ⟨hp1, hp2⟩ (by omega) h1 h2, h⟩)
  clear h
  rintro _ w' ⟨rfl, h⟩
  refine part_ok h lD hb ⟨hp1, hp2⟩ (by omega) fun D2 m al w' hM ham hmb h1 h2 h => ?_
  have hPt : Part a b m D' D2 := ⟨hM, ham, hmb, fun t t1 t2 => Int.le_of_lt (h1 t t1 t2), h2⟩
  have lD2 : D2.length = n := by rw [hM.len, lD]
  (repeat (first | apply Exists.intro (α := Int) | apply Exists.intro (α := Bool) | apply Exists.intro (α := ByteArray) | (apply Exists.intro (α := Option Addr); apply Exists.intro (α := Nat); apply Exists.intro (α := Nat)) | apply Exists.intro (α := Option Addr) | apply Exists.intro (α := Value)))
  refine ⟨rfl, ?_⟩
  refine leti rfl (letb rfl (letb rfl ?_))
  refine leti (y := ((m - a : Nat) : Int)) (by rw [wrap_i64 (by omega) (by omega)]; omega) ?_
  refine leti (y := ((b - m : Nat) : Int)) (by rw [wrap_i64 (by omega) (by omega)]; omega) ⟨by decide, leti rfl ?_⟩
  have nx : IntKind.i64.wrap ((m : Int) + 1) = ((m + 1 : Nat) : Int) := by rw [wrap_i64 (by omega) (by omega)]; omega
  refine ifd (fun _ => letb rfl ?_) fun _ => letb rfl ?_
  · refine ih (m - a) (by omega) h lD2 hb ham (by omega) (Nat.le_refl _) (hPt.left hP.here) fun D3 w' hM3 hS3 h => ⟨rfl, leti nx ⟨b - (m + 1), by omega, m + 1, b, D3, rfl, rfl, rfl, hP.left hPt hM3 hS3, h⟩⟩
  · rw [nx]
    refine ih (b - (m + 1)) (by omega) h lD2 hb (by omega) (by omega) (Nat.le_refl _) hPt.right fun D3 w' hM3 hS3 h => ⟨rfl, leti rfl ⟨m - a, by omega, a, m, D3, rfl, rfl, rfl, hP.right hPt hM3 hS3, h⟩⟩
theorem sortN_ok {w : World} {R : List SA} {X : List Int} (hn : X.length = n) (hb : n ≤ 1000000) (h : St c w (own 3 1 A n k (X.flatMap iv) :: R)) {Q : Value → World → Prop}
    (hk : ∀ w' C, Srt fI C → C.Perm X → St c w' (own 3 1 A n k (C.flatMap iv) :: R) → Q (.tuple #[]) w') : CALL PG 28 [.slice A n k] w Q := by
  refine call28 ?_
  unfold N28
  refine leti rfl ?_
  rw [wrap_u64 (by omega)]
  have key : ∀ y : Int, CALL PG 35 [.slice A n k, .int .i64 0, .int .i64 (n : Int), .int .i64 y] w fun v1 w2 => v1 = (.tuple #[]) ∧ Q (.tuple #[]) w2 := fun y =>
    pdq_ok n (a := 0) h hn hb (Nat.zero_le _) (Nat.le_refl _) (Nat.le_refl _) (.inl rfl) fun D' w' hM hS h => by
      have e := hM.len
      exact ⟨rfl, hk w' D' (SrtR.srt (by rw [e, hn]; exact hS)) hM.perm h⟩
  by_cases h0 : 0 < n
  · refine lenE_ok h0 (by omega) fun b hb hb1 => ⟨_, rfl, key _⟩
  · have : n = 0 := by omega
    subst this
    exact len_ok' (by decide) (by decide) fun y => ⟨_, rfl, key _⟩
end
end Go.Br
