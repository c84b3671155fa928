/- What the code of some functions says, as the core reads it; each reading is checked by the kernel. -/
import Derived.Test.YtccmlfekmmeloaaBrSeat
set_option linter.unusedVariables false
set_option maxRecDepth 100000
namespace Go.Br
open Go Go.Proofs

/-- slices.partitionEqualOrdered[int] -/
def N154 (data : Option Addr) (dataN dataC : Nat) (a : Int) (b : Int) (pivot : Int) (w : World) (Q : Value → World → Prop) : Prop :=
 IDX data dataN pivot fun a17 =>
 RDI PG (loadVar 3 (Addr.add a17 (Int.toNat pivot * 1))) .i64 (w.drew) fun x18 =>
 IDX data dataN a fun a21 =>
 RDI PG (loadVar 3 (Addr.add a21 (Int.toNat a * 1))) .i64 (w.drew) fun x22 =>
 IDX data dataN a fun a23 =>
 RUNU PG (storeVar 3 (Addr.add a23 (Int.toNat a * 1)) (.int .i64 x18)) (w.drew) fun w1 =>
 IDX data dataN pivot fun a24 =>
 RUNU PG (storeVar 3 (Addr.add a24 (Int.toNat pivot * 1)) (.int .i64 x22)) w1 fun w2 =>
 LETI (IntKind.i64.wrap (a + (1 : Int))) fun i =>
 LETI (IntKind.i64.wrap (b - (1 : Int))) fun j =>
 ∃ I : Nat → Int → Int → World → Prop,
 (∃ m, I m i j w2) ∧
 (∀ m1 (i1 : Int) (j1 : Int) (w3 : World), I m1 i1 j1 w3 → (∃ R : Int → World → Prop,
 (∃ I1 : Nat → Int → World → Prop,
 (∃ m2, I1 m2 i1 w3) ∧
 (∀ m3 (i2 : Int) (w4 : World), I1 m3 i2 w4 → (IFB (decide (i2 ≤ j1))
 (IDX data dataN a fun a35 =>
 RDI PG (loadVar 3 (Addr.add a35 (Int.toNat a * 1))) .i64 (w4.drew) fun x36 =>
 IDX data dataN i2 fun a39 =>
 RDI PG (loadVar 3 (Addr.add a39 (Int.toNat i2 * 1))) .i64 (w4.drew) fun x40 =>
 CALL PG 153 [(.int .i64 x36), (.int .i64 x40)] (w4.drew) fun v w5 =>
 ∃ x41 : Bool, v = (.bool x41) ∧
 (IFB (!x41)
 (LETI (IntKind.i64.wrap (i2 + (1 : Int))) fun i3 =>
 ∃ m4, m4 < m3 ∧ I1 m4 i3 w5)
 (R i2 w5)))
 (R i2 (w4.drew))))) ∧
 (∀ (i4 : Int) (w6 : World), R i4 w6 → (∃ R1 : Int → World → Prop,
 (∃ I2 : Nat → Int → World → Prop,
 (∃ m5, I2 m5 j1 w6) ∧
 (∀ m6 (j2 : Int) (w7 : World), I2 m6 j2 w7 → (IFB (decide (i4 ≤ j2))
 (IDX data dataN a fun a52 =>
 RDI PG (loadVar 3 (Addr.add a52 (Int.toNat a * 1))) .i64 (w7.drew) fun x53 =>
 IDX data dataN j2 fun a56 =>
 RDI PG (loadVar 3 (Addr.add a56 (Int.toNat j2 * 1))) .i64 (w7.drew) fun x57 =>
 CALL PG 153 [(.int .i64 x53), (.int .i64 x57)] (w7.drew) fun v1 w8 =>
 ∃ x58 : Bool, v1 = (.bool x58) ∧
 (IFB x58
 (LETI (IntKind.i64.wrap (j2 - (1 : Int))) fun j3 =>
 ∃ m7, m7 < m6 ∧ I2 m7 j3 w8)
 (R1 j2 w8)))
 (R1 j2 (w7.drew))))) ∧
 (∀ (j4 : Int) (w9 : World), R1 j4 w9 → (IFB (decide (i4 > j4))
 (LETI i4 fun newpivot =>
 Q (.int .i64 newpivot) w9)
 (IDX data dataN j4 fun a71 =>
 RDI PG (loadVar 3 (Addr.add a71 (Int.toNat j4 * 1))) .i64 (w9.drew) fun x72 =>
 IDX data dataN i4 fun a75 =>
 RDI PG (loadVar 3 (Addr.add a75 (Int.toNat i4 * 1))) .i64 (w9.drew) fun x76 =>
 IDX data dataN i4 fun a77 =>
 RUNU PG (storeVar 3 (Addr.add a77 (Int.toNat i4 * 1)) (.int .i64 x72)) (w9.drew) fun w10 =>
 IDX data dataN j4 fun a78 =>
 RUNU PG (storeVar 3 (Addr.add a78 (Int.toNat j4 * 1)) (.int .i64 x76)) w10 fun w11 =>
 LETI (IntKind.i64.wrap (i4 + (1 : Int))) fun i5 =>
 LETI (IntKind.i64.wrap (j4 - (1 : Int))) fun j5 =>
 ∃ m8, m8 < m1 ∧ I m8 i5 j5 w11)))))))
theorem eq154 : ∀ (data : Option Addr) (dataN dataC : Nat) (a : Int) (b : Int) (pivot : Int) (w : World) (Q : Value → World → Prop), vcF PG TB Try.f154 (.s .nil (.s .nil (.s .nil (.s (.u (.loop [(9, 3), (10, 3)] (.u (.cut [(9, 3)] (.u (.loop [(9, 3)] .nil)) (.cut [(10, 3)] (.u (.loop [(10, 3)] .nil)) .nil))))) .nil)))) [(.slice data dataN dataC), (.int .i64 a), (.int .i64 b), (.int .i64 pivot)] w Q = N154 data dataN dataC a b pivot w Q := by intros; kernel_rfl
theorem call154 {data : Option Addr} {dataN dataC : Nat} {a : Int} {b : Int} {pivot : Int} {w : World} {Q : Value → World → Prop} (hN : N154 data dataN dataC a b pivot w Q) : CALL PG 154 [(.slice data dataN dataC), (.int .i64 a), (.int .i64 b), (.int .i64 pivot)] w Q := calls_vc tabOk Try.func154 (by rw [eq154]; exact hN)

end Go.Br
