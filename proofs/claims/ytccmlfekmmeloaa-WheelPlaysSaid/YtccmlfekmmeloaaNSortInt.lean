/- What the code of some functions says, as the core reads it; each reading is checked by the kernel. -/
import Derived.Test.YtccmlfekmmeloaaBrSeat
set_option linter.unusedVariables false
set_option maxRecDepth 100000
namespace Go.Br
open Go Go.Proofs

/-- slices.Sort[[]int,int] -/
def N98 (x : Option Addr) (xN xC : Nat) (w : World) (Q : Value → World → Prop) : Prop :=
 LETI (xN : Int) fun n =>
 CALL PG 131 [(.int .u64 (IntKind.u64.wrap n))] w fun v w1 =>
 ∃ x9 : Int, v = (.int .i64 x9) ∧
 (CALL PG 130 [(.slice x xN xC), (.int .i64 (0 : Int)), (.int .i64 n), (.int .i64 x9)] w1 fun v1 w2 =>
 v1 = (.tuple #[]) ∧
 (Q (.tuple #[]) w2))
theorem eq98 : ∀ (x : Option Addr) (xN xC : Nat) (w : World) (Q : Value → World → Prop), vcF PG TB Try.f98 .nil [(.slice x xN xC)] w Q = N98 x xN xC w Q := by intros; kernel_rfl
theorem call98 {x : Option Addr} {xN xC : Nat} {w : World} {Q : Value → World → Prop} (hN : N98 x xN xC w Q) : CALL PG 98 [(.slice x xN xC)] w Q := calls_vc tabOk Try.func98 (by rw [eq98]; exact hN)

/-- slices.pdqsortOrdered[int] -/
def N130 (data : Option Addr) (dataN dataC : Nat) (a : Int) (b : Int) (limit : Int) (w : World) (Q : Value → World → Prop) : Prop :=
 ∃ I : Nat → Int → Int → Int → Bool → Bool → World → Prop,
 (∃ m, I m a b limit true true w) ∧
 (∀ m1 (a1 : Int) (b1 : Int) (limit1 : Int) (wasBalanced : Bool) (wasPartitioned : Bool) (w1 : World), I m1 a1 b1 limit1 wasBalanced wasPartitioned w1 → (LETI (IntKind.i64.wrap (b1 - a1)) fun length =>
 IFB (decide (length ≤ (12 : Int)))
 (CALL PG 147 [(.slice data dataN dataC), (.int .i64 a1), (.int .i64 b1)] w1 fun v w2 =>
 v = (.tuple #[]) ∧
 (Q (.tuple #[]) w2))
 (IFB (limit1 == (0 : Int))
 (CALL PG 148 [(.slice data dataN dataC), (.int .i64 a1), (.int .i64 b1)] w1 fun v1 w3 =>
 v1 = (.tuple #[]) ∧
 (Q (.tuple #[]) w3))
 (∃ R : Int → World → Prop,
 (IFB (!wasBalanced)
 (CALL PG 149 [(.slice data dataN dataC), (.int .i64 a1), (.int .i64 b1)] w1 fun v2 w4 =>
 v2 = (.tuple #[]) ∧
 (LETI (IntKind.i64.wrap (limit1 - (1 : Int))) fun limit2 =>
 R limit2 w4))
 (R limit1 w1)) ∧
 (∀ (limit3 : Int) (w5 : World), R limit3 w5 → (CALL PG 150 [(.slice data dataN dataC), (.int .i64 a1), (.int .i64 b1)] w5 fun v3 w6 =>
 ∃ x46 : Int, ∃ x46v1 : Int, v3 = (.tuple #[(.int .i64 x46), (.int .i64 x46v1)]) ∧
 (LETI x46 fun pivot =>
 LETI x46v1 fun hint =>
 ∃ R1 : Int → Int → World → Prop,
 (IFB (hint == (2 : Int))
 (CALL PG 151 [(.slice data dataN dataC), (.int .i64 a1), (.int .i64 b1)] w6 fun v4 w7 =>
 v4 = (.tuple #[]) ∧
 (LETI (IntKind.i64.wrap ((IntKind.i64.wrap (b1 - (1 : Int))) - (IntKind.i64.wrap (pivot - a1)))) fun pivot1 =>
 R1 pivot1 (1 : Int) w7))
 (R1 pivot hint w6)) ∧
 (∀ (pivot2 : Int) (hint1 : Int) (w8 : World), R1 pivot2 hint1 w8 → (∃ R2 : World → Prop,
 (IFB wasBalanced
 (IFB wasPartitioned
 (IFB (hint1 == (1 : Int))
 (CALL PG 152 [(.slice data dataN dataC), (.int .i64 a1), (.int .i64 b1)] w8 fun v5 w9 =>
 ∃ x72 : Bool, v5 = (.bool x72) ∧
 (IFB x72
 (Q (.tuple #[]) w9)
 (R2 w9)))
 (R2 w8))
 (R2 w8))
 (R2 w8)) ∧
 (∀  (w10 : World), R2 w10 → (∃ R3 : Int → World → Prop,
 (IFB (decide (a1 > (0 : Int)))
 (IDX data dataN (IntKind.i64.wrap (a1 - (1 : Int))) fun a79 =>
 RDI PG (loadVar 3 (Addr.add a79 (Int.toNat (IntKind.i64.wrap (a1 - (1 : Int))) * 1))) .i64 (w10.drew) fun x80 =>
 IDX data dataN pivot2 fun a83 =>
 RDI PG (loadVar 3 (Addr.add a83 (Int.toNat pivot2 * 1))) .i64 (w10.drew) fun x84 =>
 CALL PG 153 [(.int .i64 x80), (.int .i64 x84)] (w10.drew) fun v6 w11 =>
 ∃ x85 : Bool, v6 = (.bool x85) ∧
 (IFB (!x85)
 (CALL PG 154 [(.slice data dataN dataC), (.int .i64 a1), (.int .i64 b1), (.int .i64 pivot2)] w11 fun v7 w12 =>
 ∃ x92 : Int, v7 = (.int .i64 x92) ∧
 (LETI x92 fun mid =>
 LETI mid fun a2 =>
 ∃ m2, m2 < m1 ∧ I m2 a2 b1 limit3 wasBalanced wasPartitioned w12))
 (R3 a1 w11)))
 (R3 a1 (w10.drew))) ∧
 (∀ (a3 : Int) (w13 : World), R3 a3 w13 → (CALL PG 155 [(.slice data dataN dataC), (.int .i64 a3), (.int .i64 b1), (.int .i64 pivot2)] w13 fun v8 w14 =>
 ∃ x99 : Int, ∃ x99v1 : Bool, v8 = (.tuple #[(.int .i64 x99), (.bool x99v1)]) ∧
 (LETI x99 fun mid1 =>
 LETB x99v1 fun alreadyPartitioned =>
 LETB alreadyPartitioned fun wasPartitioned1 =>
 LETI (IntKind.i64.wrap (mid1 - a3)) fun leftLen =>
 LETI (IntKind.i64.wrap (b1 - mid1)) fun rightLen =>
 NEED ((8 : Int) ≠ 0)
 (LETI (IntKind.i64.wrap (Int.tdiv length (8 : Int))) fun balanceThreshold =>
 IFB (decide (leftLen < rightLen))
 (LETB (decide (leftLen ≥ balanceThreshold)) fun wasBalanced1 =>
 CALL PG 130 [(.slice data dataN dataC), (.int .i64 a3), (.int .i64 mid1), (.int .i64 limit3)] w14 fun v9 w15 =>
 v9 = (.tuple #[]) ∧
 (LETI (IntKind.i64.wrap (mid1 + (1 : Int))) fun a4 =>
 ∃ m3, m3 < m1 ∧ I m3 a4 b1 limit3 wasBalanced1 wasPartitioned1 w15))
 (LETB (decide (rightLen ≥ balanceThreshold)) fun wasBalanced2 =>
 CALL PG 130 [(.slice data dataN dataC), (.int .i64 (IntKind.i64.wrap (mid1 + (1 : Int)))), (.int .i64 b1), (.int .i64 limit3)] w14 fun v10 w16 =>
 v10 = (.tuple #[]) ∧
 (LETI mid1 fun b2 =>
 ∃ m4, m4 < m1 ∧ I m4 a3 b2 limit3 wasBalanced2 wasPartitioned1 w16)))))))))))))))))
theorem eq130 : ∀ (data : Option Addr) (dataN dataC : Nat) (a : Int) (b : Int) (limit : Int) (w : World) (Q : Value → World → Prop), vcF PG TB Try.f130 (.s .nil (.s .nil (.u (.loop [(1, 3), (2, 3), (3, 3), (8, 4), (9, 4)] (.u (.s .nil (.s .nil (.s .nil (.cut [(3, 3)] .nil (.s .nil (.cut [(11, 3), (12, 268)] .nil (.cut [] .nil (.cut [(1, 3)] .nil .nil))))))))))))) [(.slice data dataN dataC), (.int .i64 a), (.int .i64 b), (.int .i64 limit)] w Q = N130 data dataN dataC a b limit w Q := by intros; kernel_rfl
theorem call130 {data : Option Addr} {dataN dataC : Nat} {a : Int} {b : Int} {limit : Int} {w : World} {Q : Value → World → Prop} (hN : N130 data dataN dataC a b limit w Q) : CALL PG 130 [(.slice data dataN dataC), (.int .i64 a), (.int .i64 b), (.int .i64 limit)] w Q := calls_vc tabOk Try.func130 (by rw [eq130]; exact hN)

/-- math/bits.Len -/
def N131 (x : Int) (w : World) (Q : Value → World → Prop) : Prop :=
 CALL PG 157 [(.int .u64 x)] w fun v w1 =>
 ∃ x7 : Int, v = (.int .i64 x7) ∧
 (LETI x7 fun x2 =>
 Q (.int .i64 x2) w1)
theorem eq131 : ∀ (x : Int) (w : World) (Q : Value → World → Prop), vcF PG TB Try.f131 .nil [(.int .u64 x)] w Q = N131 x w Q := by intros; kernel_rfl
theorem call131 {x : Int} {w : World} {Q : Value → World → Prop} (hN : N131 x w Q) : CALL PG 131 [(.int .u64 x)] w Q := calls_vc tabOk Try.func131 (by rw [eq131]; exact hN)

/-- slices.insertionSortOrdered[int] -/
def N147 (data : Option Addr) (dataN dataC : Nat) (a : Int) (b : Int) (w : World) (Q : Value → World → Prop) : Prop :=
 LETI (IntKind.i64.wrap (a + (1 : Int))) fun i =>
 ∃ I : Nat → Int → World → Prop,
 (∃ m, I m i w) ∧
 (∀ m1 (i1 : Int) (w1 : World), I m1 i1 w1 → (IFB (decide (i1 < b))
 (LETI i1 fun j =>
 ∃ I1 : Nat → Int → World → Prop,
 (∃ m2, I1 m2 j w1) ∧
 (∀ m3 (j1 : Int) (w2 : World), I1 m3 j1 w2 → (IFB (decide (j1 > a))
 (IDX data dataN j1 fun a22 =>
 RDI PG (loadVar 3 (Addr.add a22 (Int.toNat j1 * 1))) .i64 (w2.drew) fun x23 =>
 IDX data dataN (IntKind.i64.wrap (j1 - (1 : Int))) fun a27 =>
 RDI PG (loadVar 3 (Addr.add a27 (Int.toNat (IntKind.i64.wrap (j1 - (1 : Int))) * 1))) .i64 (w2.drew) fun x28 =>
 CALL PG 153 [(.int .i64 x23), (.int .i64 x28)] (w2.drew) fun v w3 =>
 ∃ x29 : Bool, v = (.bool x29) ∧
 (IFB x29
 (IDX data dataN (IntKind.i64.wrap (j1 - (1 : Int))) fun a41 =>
 RDI PG (loadVar 3 (Addr.add a41 (Int.toNat (IntKind.i64.wrap (j1 - (1 : Int))) * 1))) .i64 (w3.drew) fun x42 =>
 IDX data dataN j1 fun a45 =>
 RDI PG (loadVar 3 (Addr.add a45 (Int.toNat j1 * 1))) .i64 (w3.drew) fun x46 =>
 IDX data dataN j1 fun a47 =>
 RUNU PG (storeVar 3 (Addr.add a47 (Int.toNat j1 * 1)) (.int .i64 x42)) (w3.drew) fun w4 =>
 IDX data dataN (IntKind.i64.wrap (j1 - (1 : Int))) fun a48 =>
 RUNU PG (storeVar 3 (Addr.add a48 (Int.toNat (IntKind.i64.wrap (j1 - (1 : Int))) * 1)) (.int .i64 x46)) w4 fun w5 =>
 LETI (IntKind.i64.wrap (j1 - (1 : Int))) fun j2 =>
 ∃ m4, m4 < m3 ∧ I1 m4 j2 w5)
 (LETI (IntKind.i64.wrap (i1 + (1 : Int))) fun i2 =>
 ∃ m5, m5 < m1 ∧ I m5 i2 w3)))
 (LETI (IntKind.i64.wrap (i1 + (1 : Int))) fun i3 =>
 ∃ m6, m6 < m1 ∧ I m6 i3 (w2.drew)))))
 (Q (.tuple #[]) w1)))
theorem eq147 : ∀ (data : Option Addr) (dataN dataC : Nat) (a : Int) (b : Int) (w : World) (Q : Value → World → Prop), vcF PG TB Try.f147 (.s .nil (.u (.loop [(6, 3)] (.s .nil (.s (.u (.s .nil (.u (.loop [(7, 3)] .nil)))) .nil))))) [(.slice data dataN dataC), (.int .i64 a), (.int .i64 b)] w Q = N147 data dataN dataC a b w Q := by intros; kernel_rfl
theorem call147 {data : Option Addr} {dataN dataC : Nat} {a : Int} {b : Int} {w : World} {Q : Value → World → Prop} (hN : N147 data dataN dataC a b w Q) : CALL PG 147 [(.slice data dataN dataC), (.int .i64 a), (.int .i64 b)] w Q := calls_vc tabOk Try.func147 (by rw [eq147]; exact hN)

/-- cmp.Less[int] -/
def N153 (x : Int) (y : Int) (w : World) (Q : Value → World → Prop) : Prop :=
 CALL PG 181 [(.int .i64 x)] w fun v w1 =>
 ∃ x6 : Bool, v = (.bool x6) ∧
 (IFB x6
 (CALL PG 181 [(.int .i64 y)] w1 fun v1 w2 =>
 ∃ x9 : Bool, v1 = (.bool x9) ∧
 (IFB (!x9)
 (LETB true fun x4 =>
 Q (.bool x4) w2)
 (LETB (decide (x < y)) fun x4v1 =>
 Q (.bool x4v1) w2)))
 (LETB (decide (x < y)) fun x4v2 =>
 Q (.bool x4v2) w1))
theorem eq153 : ∀ (x : Int) (y : Int) (w : World) (Q : Value → World → Prop), vcF PG TB Try.f153 .nil [(.int .i64 x), (.int .i64 y)] w Q = N153 x y w Q := by intros; kernel_rfl
theorem call153 {x : Int} {y : Int} {w : World} {Q : Value → World → Prop} (hN : N153 x y w Q) : CALL PG 153 [(.int .i64 x), (.int .i64 y)] w Q := calls_vc tabOk Try.func153 (by rw [eq153]; exact hN)

/-- math/bits.Len64 -/
def N157 (x : Int) (w : World) (Q : Value → World → Prop) : Prop :=
 ∃ R : Int → Int → World → Prop,
 (IFB (decide (x ≥ (4294967296 : Int)))
 (NEED (0 ≤ (32 : Int))
 (LETI (shrN .u64 x (32 : Int)) fun x1 =>
 R x1 (32 : Int) w))
 (R x (0 : Int) w)) ∧
 (∀ (x2 : Int) (n : Int) (w1 : World), R x2 n w1 → (∃ R1 : Int → Int → World → Prop,
 (IFB (decide (x2 ≥ (65536 : Int)))
 (NEED (0 ≤ (16 : Int))
 (LETI (shrN .u64 x2 (16 : Int)) fun x3 =>
 LETI (IntKind.i64.wrap (n + (16 : Int))) fun n1 =>
 R1 x3 n1 w1))
 (R1 x2 n w1)) ∧
 (∀ (x4 : Int) (n2 : Int) (w2 : World), R1 x4 n2 w2 → (IFB (decide (x4 ≥ (256 : Int)))
 (NEED (0 ≤ (8 : Int))
 (LETI (shrN .u64 x4 (8 : Int)) fun x5 =>
 LETI (IntKind.i64.wrap (n2 + (8 : Int))) fun n3 =>
 NEED (0 ≤ (IntKind.u8.wrap x5) ∧ (IntKind.u8.wrap x5) < (ByteArray.mk #[0, 1, 2, 2, 3, 3, 3, 3, 4, 4, 4, 4, 4, 4, 4, 4, 5, 5, 5, 5, 5, 5, 5, 5, 5, 5, 5, 5, 5, 5, 5, 5, 6, 6, 6, 6, 6, 6, 6, 6, 6, 6, 6, 6, 6, 6, 6, 6, 6, 6, 6, 6, 6, 6, 6, 6, 6, 6, 6, 6, 6, 6, 6, 6, 7, 7, 7, 7, 7, 7, 7, 7, 7, 7, 7, 7, 7, 7, 7, 7, 7, 7, 7, 7, 7, 7, 7, 7, 7, 7, 7, 7, 7, 7, 7, 7, 7, 7, 7, 7, 7, 7, 7, 7, 7, 7, 7, 7, 7, 7, 7, 7, 7, 7, 7, 7, 7, 7, 7, 7, 7, 7, 7, 7, 7, 7, 7, 7, 8, 8, 8, 8, 8, 8, 8, 8, 8, 8, 8, 8, 8, 8, 8, 8, 8, 8, 8, 8, 8, 8, 8, 8, 8, 8, 8, 8, 8, 8, 8, 8, 8, 8, 8, 8, 8, 8, 8, 8, 8, 8, 8, 8, 8, 8, 8, 8, 8, 8, 8, 8, 8, 8, 8, 8, 8, 8, 8, 8, 8, 8, 8, 8, 8, 8, 8, 8, 8, 8, 8, 8, 8, 8, 8, 8, 8, 8, 8, 8, 8, 8, 8, 8, 8, 8, 8, 8, 8, 8, 8, 8, 8, 8, 8, 8, 8, 8, 8, 8, 8, 8, 8, 8, 8, 8, 8, 8, 8, 8, 8, 8, 8, 8, 8, 8, 8, 8, 8, 8, 8, 8, 8, 8, 8, 8, 8, 8]).size)
 (LETI (IntKind.i64.wrap (n3 + (IntKind.i64.wrap (sbyte (ByteArray.mk #[0, 1, 2, 2, 3, 3, 3, 3, 4, 4, 4, 4, 4, 4, 4, 4, 5, 5, 5, 5, 5, 5, 5, 5, 5, 5, 5, 5, 5, 5, 5, 5, 6, 6, 6, 6, 6, 6, 6, 6, 6, 6, 6, 6, 6, 6, 6, 6, 6, 6, 6, 6, 6, 6, 6, 6, 6, 6, 6, 6, 6, 6, 6, 6, 7, 7, 7, 7, 7, 7, 7, 7, 7, 7, 7, 7, 7, 7, 7, 7, 7, 7, 7, 7, 7, 7, 7, 7, 7, 7, 7, 7, 7, 7, 7, 7, 7, 7, 7, 7, 7, 7, 7, 7, 7, 7, 7, 7, 7, 7, 7, 7, 7, 7, 7, 7, 7, 7, 7, 7, 7, 7, 7, 7, 7, 7, 7, 7, 8, 8, 8, 8, 8, 8, 8, 8, 8, 8, 8, 8, 8, 8, 8, 8, 8, 8, 8, 8, 8, 8, 8, 8, 8, 8, 8, 8, 8, 8, 8, 8, 8, 8, 8, 8, 8, 8, 8, 8, 8, 8, 8, 8, 8, 8, 8, 8, 8, 8, 8, 8, 8, 8, 8, 8, 8, 8, 8, 8, 8, 8, 8, 8, 8, 8, 8, 8, 8, 8, 8, 8, 8, 8, 8, 8, 8, 8, 8, 8, 8, 8, 8, 8, 8, 8, 8, 8, 8, 8, 8, 8, 8, 8, 8, 8, 8, 8, 8, 8, 8, 8, 8, 8, 8, 8, 8, 8, 8, 8, 8, 8, 8, 8, 8, 8, 8, 8, 8, 8, 8, 8, 8, 8, 8, 8, 8, 8]) (IntKind.u8.wrap x5))))) fun n4 =>
 Q (.int .i64 n4) w2)))
 (NEED (0 ≤ (IntKind.u8.wrap x4) ∧ (IntKind.u8.wrap x4) < (ByteArray.mk #[0, 1, 2, 2, 3, 3, 3, 3, 4, 4, 4, 4, 4, 4, 4, 4, 5, 5, 5, 5, 5, 5, 5, 5, 5, 5, 5, 5, 5, 5, 5, 5, 6, 6, 6, 6, 6, 6, 6, 6, 6, 6, 6, 6, 6, 6, 6, 6, 6, 6, 6, 6, 6, 6, 6, 6, 6, 6, 6, 6, 6, 6, 6, 6, 7, 7, 7, 7, 7, 7, 7, 7, 7, 7, 7, 7, 7, 7, 7, 7, 7, 7, 7, 7, 7, 7, 7, 7, 7, 7, 7, 7, 7, 7, 7, 7, 7, 7, 7, 7, 7, 7, 7, 7, 7, 7, 7, 7, 7, 7, 7, 7, 7, 7, 7, 7, 7, 7, 7, 7, 7, 7, 7, 7, 7, 7, 7, 7, 8, 8, 8, 8, 8, 8, 8, 8, 8, 8, 8, 8, 8, 8, 8, 8, 8, 8, 8, 8, 8, 8, 8, 8, 8, 8, 8, 8, 8, 8, 8, 8, 8, 8, 8, 8, 8, 8, 8, 8, 8, 8, 8, 8, 8, 8, 8, 8, 8, 8, 8, 8, 8, 8, 8, 8, 8, 8, 8, 8, 8, 8, 8, 8, 8, 8, 8, 8, 8, 8, 8, 8, 8, 8, 8, 8, 8, 8, 8, 8, 8, 8, 8, 8, 8, 8, 8, 8, 8, 8, 8, 8, 8, 8, 8, 8, 8, 8, 8, 8, 8, 8, 8, 8, 8, 8, 8, 8, 8, 8, 8, 8, 8, 8, 8, 8, 8, 8, 8, 8, 8, 8, 8, 8, 8, 8, 8, 8]).size)
 (LETI (IntKind.i64.wrap (n2 + (IntKind.i64.wrap (sbyte (ByteArray.mk #[0, 1, 2, 2, 3, 3, 3, 3, 4, 4, 4, 4, 4, 4, 4, 4, 5, 5, 5, 5, 5, 5, 5, 5, 5, 5, 5, 5, 5, 5, 5, 5, 6, 6, 6, 6, 6, 6, 6, 6, 6, 6, 6, 6, 6, 6, 6, 6, 6, 6, 6, 6, 6, 6, 6, 6, 6, 6, 6, 6, 6, 6, 6, 6, 7, 7, 7, 7, 7, 7, 7, 7, 7, 7, 7, 7, 7, 7, 7, 7, 7, 7, 7, 7, 7, 7, 7, 7, 7, 7, 7, 7, 7, 7, 7, 7, 7, 7, 7, 7, 7, 7, 7, 7, 7, 7, 7, 7, 7, 7, 7, 7, 7, 7, 7, 7, 7, 7, 7, 7, 7, 7, 7, 7, 7, 7, 7, 7, 8, 8, 8, 8, 8, 8, 8, 8, 8, 8, 8, 8, 8, 8, 8, 8, 8, 8, 8, 8, 8, 8, 8, 8, 8, 8, 8, 8, 8, 8, 8, 8, 8, 8, 8, 8, 8, 8, 8, 8, 8, 8, 8, 8, 8, 8, 8, 8, 8, 8, 8, 8, 8, 8, 8, 8, 8, 8, 8, 8, 8, 8, 8, 8, 8, 8, 8, 8, 8, 8, 8, 8, 8, 8, 8, 8, 8, 8, 8, 8, 8, 8, 8, 8, 8, 8, 8, 8, 8, 8, 8, 8, 8, 8, 8, 8, 8, 8, 8, 8, 8, 8, 8, 8, 8, 8, 8, 8, 8, 8, 8, 8, 8, 8, 8, 8, 8, 8, 8, 8, 8, 8, 8, 8, 8, 8, 8, 8]) (IntKind.u8.wrap x4))))) fun n5 =>
 Q (.int .i64 n5) w2))))))
theorem eq157 : ∀ (x : Int) (w : World) (Q : Value → World → Prop), vcF PG TB Try.f157 (.s .nil (.cut [(0, 42), (2, 3)] .nil (.cut [(0, 42), (2, 3)] .nil .nil))) [(.int .u64 x)] w Q = N157 x w Q := by intros; kernel_rfl
theorem call157 {x : Int} {w : World} {Q : Value → World → Prop} (hN : N157 x w Q) : CALL PG 157 [(.int .u64 x)] w Q := calls_vc tabOk Try.func157 (by rw [eq157]; exact hN)

/-- cmp.isNaN[int] -/
def N181 (x : Int) (w : World) (Q : Value → World → Prop) : Prop :=
 LETB (x != x) fun x2 =>
 Q (.bool x2) w
theorem eq181 : ∀ (x : Int) (w : World) (Q : Value → World → Prop), vcF PG TB Try.f181 .nil [(.int .i64 x)] w Q = N181 x w Q := by intros; kernel_rfl
theorem call181 {x : Int} {w : World} {Q : Value → World → Prop} (hN : N181 x w Q) : CALL PG 181 [(.int .i64 x)] w Q := calls_vc tabOk Try.func181 (by rw [eq181]; exact hN)

end Go.Br
