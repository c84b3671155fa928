/- What the code of some functions says, as the core reads it; each reading is checked by the kernel. -/
import Derived.Test.YtccmlfekmmeloaaBrSeat
set_option linter.unusedVariables false
set_option maxRecDepth 100000
namespace Go.Br
open Go Go.Proofs

/-- slices.choosePivotOrdered[int] -/
def N150 (data : Option Addr) (dataN dataC : Nat) (a : Int) (b : Int) (w : World) (Q : Value → World → Prop) : Prop :=
 LETI (IntKind.i64.wrap (b - a)) fun l =>
 RUNA PG (Instr.alloc 3 true (.tuple #[])) w fun a9 w1 =>
 NEED ((4 : Int) ≠ 0)
 (LETI (IntKind.i64.wrap (a + (IntKind.i64.wrap ((IntKind.i64.wrap (Int.tdiv l (4 : Int))) * (1 : Int))))) fun i =>
 NEED ((4 : Int) ≠ 0)
 (LETI (IntKind.i64.wrap (a + (IntKind.i64.wrap ((IntKind.i64.wrap (Int.tdiv l (4 : Int))) * (2 : Int))))) fun j =>
 NEED ((4 : Int) ≠ 0)
 (LETI (IntKind.i64.wrap (a + (IntKind.i64.wrap ((IntKind.i64.wrap (Int.tdiv l (4 : Int))) * (3 : Int))))) fun k =>
 ∃ R : Int → World → Prop,
 (IFB (decide (l ≥ (8 : Int)))
 (IFB (decide (l ≥ (50 : Int)))
 (CALL PG 179 [(.slice data dataN dataC), (.int .i64 i), (.pointer (some a9))] w1 fun v w2 =>
 ∃ x37 : Int, v = (.int .i64 x37) ∧
 (LETI x37 fun i1 =>
 CALL PG 179 [(.slice data dataN dataC), (.int .i64 j), (.pointer (some a9))] w2 fun v1 w3 =>
 ∃ x40 : Int, v1 = (.int .i64 x40) ∧
 (LETI x40 fun j1 =>
 CALL PG 179 [(.slice data dataN dataC), (.int .i64 k), (.pointer (some a9))] w3 fun v2 w4 =>
 ∃ x43 : Int, v2 = (.int .i64 x43) ∧
 (LETI x43 fun k1 =>
 CALL PG 180 [(.slice data dataN dataC), (.int .i64 i1), (.int .i64 j1), (.int .i64 k1), (.pointer (some a9))] w4 fun v3 w5 =>
 ∃ x48 : Int, v3 = (.int .i64 x48) ∧
 (LETI x48 fun j2 =>
 R j2 w5)))))
 (CALL PG 180 [(.slice data dataN dataC), (.int .i64 i), (.int .i64 j), (.int .i64 k), (.pointer (some a9))] w1 fun v4 w6 =>
 ∃ x48v1 : Int, v4 = (.int .i64 x48v1) ∧
 (LETI x48v1 fun j3 =>
 R j3 w6)))
 (R j w1)) ∧
 (∀ (j4 : Int) (w7 : World), R j4 w7 → (RDI PG (loadVar 3 a9) .i64 w7 fun x49 =>
 LETB (x49 == (0 : Int)) fun x51 =>
 IFB x51
 (LETI j4 fun pivot =>
 Q (.tuple #[(.int .i64 pivot), (.int .i64 (1 : Int))]) w7)
 (LETB (x49 == (12 : Int)) fun x54 =>
 IFB x54
 (LETI j4 fun pivot1 =>
 Q (.tuple #[(.int .i64 pivot1), (.int .i64 (2 : Int))]) w7)
 (LETI j4 fun pivot2 =>
 Q (.tuple #[(.int .i64 pivot2), (.int .i64 (0 : Int))]) w7)))))))
theorem eq150 : ∀ (data : Option Addr) (dataN dataC : Nat) (a : Int) (b : Int) (w : World) (Q : Value → World → Prop), vcF PG TB Try.f150 (.s .nil (.s .nil (.s .nil (.s .nil (.s .nil (.s .nil (.cut [(11, 3)] .nil .nil))))))) [(.slice data dataN dataC), (.int .i64 a), (.int .i64 b)] w Q = N150 data dataN dataC a b w Q := by intros; kernel_rfl
theorem call150 {data : Option Addr} {dataN dataC : Nat} {a : Int} {b : Int} {w : World} {Q : Value → World → Prop} (hN : N150 data dataN dataC a b w Q) : CALL PG 150 [(.slice data dataN dataC), (.int .i64 a), (.int .i64 b)] w Q := calls_vc tabOk Try.func150 (by rw [eq150]; exact hN)

/-- slices.reverseRangeOrdered[int] -/
def N151 (data : Option Addr) (dataN dataC : Nat) (a : Int) (b : Int) (w : World) (Q : Value → World → Prop) : Prop :=
 LETI a fun i =>
 LETI (IntKind.i64.wrap (b - (1 : Int))) fun j =>
 ∃ I : Nat → Int → Int → World → Prop,
 (∃ m, I m i j w) ∧
 (∀ m1 (i1 : Int) (j1 : Int) (w1 : World), I m1 i1 j1 w1 → (IFB (decide (i1 < j1))
 (IDX data dataN j1 fun a20 =>
 RDI PG (loadVar 3 (Addr.add a20 (Int.toNat j1 * 1))) .i64 (w1.drew) fun x21 =>
 IDX data dataN i1 fun a24 =>
 RDI PG (loadVar 3 (Addr.add a24 (Int.toNat i1 * 1))) .i64 (w1.drew) fun x25 =>
 IDX data dataN i1 fun a26 =>
 RUNU PG (storeVar 3 (Addr.add a26 (Int.toNat i1 * 1)) (.int .i64 x21)) (w1.drew) fun w2 =>
 IDX data dataN j1 fun a27 =>
 RUNU PG (storeVar 3 (Addr.add a27 (Int.toNat j1 * 1)) (.int .i64 x25)) w2 fun w3 =>
 LETI (IntKind.i64.wrap (i1 + (1 : Int))) fun i2 =>
 LETI (IntKind.i64.wrap (j1 - (1 : Int))) fun j2 =>
 ∃ m2, m2 < m1 ∧ I m2 i2 j2 w3)
 (Q (.tuple #[]) w1)))
theorem eq151 : ∀ (data : Option Addr) (dataN dataC : Nat) (a : Int) (b : Int) (w : World) (Q : Value → World → Prop), vcF PG TB Try.f151 (.s .nil (.s .nil (.u (.loop [(6, 3), (7, 3)] .nil)))) [(.slice data dataN dataC), (.int .i64 a), (.int .i64 b)] w Q = N151 data dataN dataC a b w Q := by intros; kernel_rfl
theorem call151 {data : Option Addr} {dataN dataC : Nat} {a : Int} {b : Int} {w : World} {Q : Value → World → Prop} (hN : N151 data dataN dataC a b w Q) : CALL PG 151 [(.slice data dataN dataC), (.int .i64 a), (.int .i64 b)] w Q := calls_vc tabOk Try.func151 (by rw [eq151]; exact hN)

/-- slices.medianAdjacentOrdered[int] -/
def N179 (data : Option Addr) (dataN dataC : Nat) (a : Int) (swaps : Option Addr) (w : World) (Q : Value → World → Prop) : Prop :=
 CALL PG 180 [(.slice data dataN dataC), (.int .i64 (IntKind.i64.wrap (a - (1 : Int)))), (.int .i64 a), (.int .i64 (IntKind.i64.wrap (a + (1 : Int)))), (.pointer swaps)] w fun v w1 =>
 ∃ x14 : Int, v = (.int .i64 x14) ∧
 (LETI x14 fun x6 =>
 Q (.int .i64 x6) w1)
theorem eq179 : ∀ (data : Option Addr) (dataN dataC : Nat) (a : Int) (swaps : Option Addr) (w : World) (Q : Value → World → Prop), vcF PG TB Try.f179 .nil [(.slice data dataN dataC), (.int .i64 a), (.pointer swaps)] w Q = N179 data dataN dataC a swaps w Q := by intros; kernel_rfl
theorem call179 {data : Option Addr} {dataN dataC : Nat} {a : Int} {swaps : Option Addr} {w : World} {Q : Value → World → Prop} (hN : N179 data dataN dataC a swaps w Q) : CALL PG 179 [(.slice data dataN dataC), (.int .i64 a), (.pointer swaps)] w Q := calls_vc tabOk Try.func179 (by rw [eq179]; exact hN)

/-- slices.medianOrdered[int] -/
def N180 (data : Option Addr) (dataN dataC : Nat) (a : Int) (b : Int) (c : Int) (swaps : Option Addr) (w : World) (Q : Value → World → Prop) : Prop :=
 CALL PG 191 [(.slice data dataN dataC), (.int .i64 a), (.int .i64 b), (.pointer swaps)] w fun v w1 =>
 ∃ x16 : Int, ∃ x16v1 : Int, v = (.tuple #[(.int .i64 x16), (.int .i64 x16v1)]) ∧
 (LETI x16 fun a1 =>
 LETI x16v1 fun b1 =>
 CALL PG 191 [(.slice data dataN dataC), (.int .i64 b1), (.int .i64 c), (.pointer swaps)] w1 fun v1 w2 =>
 ∃ x24 : Int, ∃ x24v1 : Int, v1 = (.tuple #[(.int .i64 x24), (.int .i64 x24v1)]) ∧
 (LETI x24 fun b2 =>
 LETI x24v1 fun c1 =>
 CALL PG 191 [(.slice data dataN dataC), (.int .i64 a1), (.int .i64 b2), (.pointer swaps)] w2 fun v2 w3 =>
 ∃ x32 : Int, ∃ x32v1 : Int, v2 = (.tuple #[(.int .i64 x32), (.int .i64 x32v1)]) ∧
 (LETI x32 fun a2 =>
 LETI x32v1 fun b3 =>
 LETI b3 fun x10 =>
 Q (.int .i64 x10) w3)))
theorem eq180 : ∀ (data : Option Addr) (dataN dataC : Nat) (a : Int) (b : Int) (c : Int) (swaps : Option Addr) (w : World) (Q : Value → World → Prop), vcF PG TB Try.f180 .nil [(.slice data dataN dataC), (.int .i64 a), (.int .i64 b), (.int .i64 c), (.pointer swaps)] w Q = N180 data dataN dataC a b c swaps w Q := by intros; kernel_rfl
theorem call180 {data : Option Addr} {dataN dataC : Nat} {a : Int} {b : Int} {c : Int} {swaps : Option Addr} {w : World} {Q : Value → World → Prop} (hN : N180 data dataN dataC a b c swaps w Q) : CALL PG 180 [(.slice data dataN dataC), (.int .i64 a), (.int .i64 b), (.int .i64 c), (.pointer swaps)] w Q := calls_vc tabOk Try.func180 (by rw [eq180]; exact hN)

/-- slices.order2Ordered[int] -/
def N191 (data : Option Addr) (dataN dataC : Nat) (a : Int) (b : Int) (swaps : Option Addr) (w : World) (Q : Value → World → Prop) : Prop :=
 IDX data dataN b fun a12 =>
 RDI PG (loadVar 3 (Addr.add a12 (Int.toNat b * 1))) .i64 (w.drew) fun x13 =>
 IDX data dataN a fun a16 =>
 RDI PG (loadVar 3 (Addr.add a16 (Int.toNat a * 1))) .i64 (w.drew) fun x17 =>
 CALL PG 153 [(.int .i64 x13), (.int .i64 x17)] (w.drew) fun v w1 =>
 ∃ x18 : Bool, v = (.bool x18) ∧
 (IFB x18
 (NILC swaps fun a20 =>
 RDI PG (loadVar 3 a20) .i64 w1 fun x21 =>
 NILC swaps fun a23 =>
 RUNU PG (storeVar 3 a23 (.int .i64 (IntKind.i64.wrap (x21 + (1 : Int))))) w1 fun w2 =>
 LETI b fun x8 =>
 LETI a fun x9 =>
 Q (.tuple #[(.int .i64 x8), (.int .i64 x9)]) w2)
 (LETI a fun x8v1 =>
 LETI b fun x9v1 =>
 Q (.tuple #[(.int .i64 x8v1), (.int .i64 x9v1)]) w1))
theorem eq191 : ∀ (data : Option Addr) (dataN dataC : Nat) (a : Int) (b : Int) (swaps : Option Addr) (w : World) (Q : Value → World → Prop), vcF PG TB Try.f191 .nil [(.slice data dataN dataC), (.int .i64 a), (.int .i64 b), (.pointer swaps)] w Q = N191 data dataN dataC a b swaps w Q := by intros; kernel_rfl
theorem call191 {data : Option Addr} {dataN dataC : Nat} {a : Int} {b : Int} {swaps : Option Addr} {w : World} {Q : Value → World → Prop} (hN : N191 data dataN dataC a b swaps w Q) : CALL PG 191 [(.slice data dataN dataC), (.int .i64 a), (.int .i64 b), (.pointer swaps)] w Q := calls_vc tabOk Try.func191 (by rw [eq191]; exact hN)

end Go.Br
