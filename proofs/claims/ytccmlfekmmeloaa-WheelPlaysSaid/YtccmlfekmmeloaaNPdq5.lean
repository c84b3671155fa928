/- What the code of some functions says, as the core reads it; each reading is checked by the kernel. -/
import Derived.Test.YtccmlfekmmeloaaBrSeat
set_option linter.unusedVariables false
set_option maxRecDepth 100000
namespace Go.Br
open Go Go.Proofs

/-- slices.heapSortOrdered[int] -/
def N148 (data : Option Addr) (dataN dataC : Nat) (a : Int) (b : Int) (w : World) (Q : Value → World → Prop) : Prop :=
 LETI a fun first =>
 LETI (IntKind.i64.wrap (b - a)) fun hi =>
 NEED ((2 : Int) ≠ 0)
 (LETI (IntKind.i64.wrap (Int.tdiv (IntKind.i64.wrap (hi - (1 : Int))) (2 : Int))) fun i =>
 ∃ I : Nat → Int → World → Prop,
 (∃ m, I m i w) ∧
 (∀ m1 (i1 : Int) (w1 : World), I m1 i1 w1 → (IFB (decide (i1 ≥ (0 : Int)))
 (CALL PG 176 [(.slice data dataN dataC), (.int .i64 i1), (.int .i64 hi), (.int .i64 first)] w1 fun v w2 =>
 v = (.tuple #[]) ∧
 (LETI (IntKind.i64.wrap (i1 - (1 : Int))) fun i2 =>
 ∃ m2, m2 < m1 ∧ I m2 i2 w2))
 (LETI (IntKind.i64.wrap (hi - (1 : Int))) fun i3 =>
 ∃ I1 : Nat → Int → World → Prop,
 (∃ m3, I1 m3 i3 w1) ∧
 (∀ m4 (i4 : Int) (w3 : World), I1 m4 i4 w3 → (IFB (decide (i4 ≥ (0 : Int)))
 (IDX data dataN (IntKind.i64.wrap (first + i4)) fun a43 =>
 RDI PG (loadVar 3 (Addr.add a43 (Int.toNat (IntKind.i64.wrap (first + i4)) * 1))) .i64 (w3.drew) fun x44 =>
 IDX data dataN first fun a47 =>
 RDI PG (loadVar 3 (Addr.add a47 (Int.toNat first * 1))) .i64 (w3.drew) fun x48 =>
 IDX data dataN first fun a49 =>
 RUNU PG (storeVar 3 (Addr.add a49 (Int.toNat first * 1)) (.int .i64 x44)) (w3.drew) fun w4 =>
 IDX data dataN (IntKind.i64.wrap (first + i4)) fun a50 =>
 RUNU PG (storeVar 3 (Addr.add a50 (Int.toNat (IntKind.i64.wrap (first + i4)) * 1)) (.int .i64 x48)) w4 fun w5 =>
 CALL PG 176 [(.slice data dataN dataC), (.int .i64 (0 : Int)), (.int .i64 i4), (.int .i64 first)] w5 fun v1 w6 =>
 v1 = (.tuple #[]) ∧
 (LETI (IntKind.i64.wrap (i4 - (1 : Int))) fun i5 =>
 ∃ m5, m5 < m4 ∧ I1 m5 i5 w6))
 (Q (.tuple #[]) w3)))))))
theorem eq148 : ∀ (data : Option Addr) (dataN dataC : Nat) (a : Int) (b : Int) (w : World) (Q : Value → World → Prop), vcF PG TB Try.f148 (.s .nil (.s .nil (.s .nil (.s (.s .nil (.u (.loop [(9, 3)] .nil))) (.s .nil (.u (.loop [(10, 3)] .nil))))))) [(.slice data dataN dataC), (.int .i64 a), (.int .i64 b)] w Q = N148 data dataN dataC a b w Q := by intros; kernel_rfl
theorem call148 {data : Option Addr} {dataN dataC : Nat} {a : Int} {b : Int} {w : World} {Q : Value → World → Prop} (hN : N148 data dataN dataC a b w Q) : CALL PG 148 [(.slice data dataN dataC), (.int .i64 a), (.int .i64 b)] w Q := calls_vc tabOk Try.func148 (by rw [eq148]; exact hN)

/-- slices.siftDownOrdered[int] -/
def N176 (data : Option Addr) (dataN dataC : Nat) (lo : Int) (hi : Int) (first : Int) (w : World) (Q : Value → World → Prop) : Prop :=
 LETI lo fun root =>
 ∃ I : Nat → Int → World → Prop,
 (∃ m, I m root w) ∧
 (∀ m1 (root1 : Int) (w1 : World), I m1 root1 w1 → (LETI (IntKind.i64.wrap ((IntKind.i64.wrap ((2 : Int) * root1)) + (1 : Int))) fun child =>
 IFB (decide (child ≥ hi))
 (Q (.tuple #[]) w1)
 (∃ R : Int → World → Prop,
 (IFB (decide ((IntKind.i64.wrap (child + (1 : Int))) < hi))
 (IDX data dataN (IntKind.i64.wrap (first + child)) fun a26 =>
 RDI PG (loadVar 3 (Addr.add a26 (Int.toNat (IntKind.i64.wrap (first + child)) * 1))) .i64 (w1.drew) fun x27 =>
 IDX data dataN (IntKind.i64.wrap ((IntKind.i64.wrap (first + child)) + (1 : Int))) fun a33 =>
 RDI PG (loadVar 3 (Addr.add a33 (Int.toNat (IntKind.i64.wrap ((IntKind.i64.wrap (first + child)) + (1 : Int))) * 1))) .i64 (w1.drew) fun x34 =>
 CALL PG 153 [(.int .i64 x27), (.int .i64 x34)] (w1.drew) fun v w2 =>
 ∃ x35 : Bool, v = (.bool x35) ∧
 (IFB x35
 (LETI (IntKind.i64.wrap (child + (1 : Int))) fun child1 =>
 R child1 w2)
 (R child w2)))
 (R child (w1.drew))) ∧
 (∀ (child2 : Int) (w3 : World), R child2 w3 → (IDX data dataN (IntKind.i64.wrap (first + root1)) fun a43 =>
 RDI PG (loadVar 3 (Addr.add a43 (Int.toNat (IntKind.i64.wrap (first + root1)) * 1))) .i64 (w3.drew) fun x44 =>
 IDX data dataN (IntKind.i64.wrap (first + child2)) fun a49 =>
 RDI PG (loadVar 3 (Addr.add a49 (Int.toNat (IntKind.i64.wrap (first + child2)) * 1))) .i64 (w3.drew) fun x50 =>
 CALL PG 153 [(.int .i64 x44), (.int .i64 x50)] (w3.drew) fun v1 w4 =>
 ∃ x51 : Bool, v1 = (.bool x51) ∧
 (IFB (!x51)
 (Q (.tuple #[]) w4)
 (IDX data dataN (IntKind.i64.wrap (first + child2)) fun a65 =>
 RDI PG (loadVar 3 (Addr.add a65 (Int.toNat (IntKind.i64.wrap (first + child2)) * 1))) .i64 (w4.drew) fun x66 =>
 IDX data dataN (IntKind.i64.wrap (first + root1)) fun a71 =>
 RDI PG (loadVar 3 (Addr.add a71 (Int.toNat (IntKind.i64.wrap (first + root1)) * 1))) .i64 (w4.drew) fun x72 =>
 IDX data dataN (IntKind.i64.wrap (first + root1)) fun a73 =>
 RUNU PG (storeVar 3 (Addr.add a73 (Int.toNat (IntKind.i64.wrap (first + root1)) * 1)) (.int .i64 x66)) (w4.drew) fun w5 =>
 IDX data dataN (IntKind.i64.wrap (first + child2)) fun a74 =>
 RUNU PG (storeVar 3 (Addr.add a74 (Int.toNat (IntKind.i64.wrap (first + child2)) * 1)) (.int .i64 x72)) w5 fun w6 =>
 LETI child2 fun root2 =>
 ∃ m2, m2 < m1 ∧ I m2 root2 w6)))))))
theorem eq176 : ∀ (data : Option Addr) (dataN dataC : Nat) (lo : Int) (hi : Int) (first : Int) (w : World) (Q : Value → World → Prop), vcF PG TB Try.f176 (.s .nil (.u (.loop [(8, 3)] (.u (.s .nil (.s .nil (.cut [(9, 3)] .nil .nil))))))) [(.slice data dataN dataC), (.int .i64 lo), (.int .i64 hi), (.int .i64 first)] w Q = N176 data dataN dataC lo hi first w Q := by intros; kernel_rfl
theorem call176 {data : Option Addr} {dataN dataC : Nat} {lo : Int} {hi : Int} {first : Int} {w : World} {Q : Value → World → Prop} (hN : N176 data dataN dataC lo hi first w Q) : CALL PG 176 [(.slice data dataN dataC), (.int .i64 lo), (.int .i64 hi), (.int .i64 first)] w Q := calls_vc tabOk Try.func176 (by rw [eq176]; exact hN)

end Go.Br
