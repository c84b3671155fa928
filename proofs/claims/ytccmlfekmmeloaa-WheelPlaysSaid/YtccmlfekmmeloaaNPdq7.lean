/- What the code of some functions says, as the core reads it; each reading is checked by the kernel. -/
import Derived.Test.YtccmlfekmmeloaaBrSeat
set_option linter.unusedVariables false
set_option maxRecDepth 100000
namespace Go.Br
open Go Go.Proofs

/-- slices.partialInsertionSortOrdered[int] -/
def N152 (data : Option Addr) (dataN dataC : Nat) (a : Int) (b : Int) (w : World) (Q : Value → World → Prop) : Prop :=
 LETI (IntKind.i64.wrap (a + (1 : Int))) fun i =>
 ∃ I : Nat → Int → Int → World → Prop,
 (∃ m, I m i (0 : Int) w) ∧
 (∀ m1 (i1 : Int) (j : Int) (w1 : World), I m1 i1 j w1 → (IFB (decide (j < (5 : Int)))
 (∃ R : Int → World → Prop,
 (∃ I1 : Nat → Int → World → Prop,
 (∃ m2, I1 m2 i1 w1) ∧
 (∀ m3 (i2 : Int) (w2 : World), I1 m3 i2 w2 → (IFB (decide (i2 < b))
 (IDX data dataN i2 fun a23 =>
 RDI PG (loadVar 3 (Addr.add a23 (Int.toNat i2 * 1))) .i64 (w2.drew) fun x24 =>
 IDX data dataN (IntKind.i64.wrap (i2 - (1 : Int))) fun a28 =>
 RDI PG (loadVar 3 (Addr.add a28 (Int.toNat (IntKind.i64.wrap (i2 - (1 : Int))) * 1))) .i64 (w2.drew) fun x29 =>
 CALL PG 153 [(.int .i64 x24), (.int .i64 x29)] (w2.drew) fun v w3 =>
 ∃ x30 : Bool, v = (.bool x30) ∧
 (IFB (!x30)
 (LETI (IntKind.i64.wrap (i2 + (1 : Int))) fun i3 =>
 ∃ m4, m4 < m3 ∧ I1 m4 i3 w3)
 (R i2 w3)))
 (R i2 (w2.drew))))) ∧
 (∀ (i4 : Int) (w4 : World), R i4 w4 → (IFB (i4 == b)
 (Q (.bool true) w4)
 (IFB (decide ((IntKind.i64.wrap (b - a)) < (50 : Int)))
 (Q (.bool false) w4)
 (IDX data dataN (IntKind.i64.wrap (i4 - (1 : Int))) fun a50 =>
 RDI PG (loadVar 3 (Addr.add a50 (Int.toNat (IntKind.i64.wrap (i4 - (1 : Int))) * 1))) .i64 (w4.drew) fun x51 =>
 IDX data dataN i4 fun a54 =>
 RDI PG (loadVar 3 (Addr.add a54 (Int.toNat i4 * 1))) .i64 (w4.drew) fun x55 =>
 IDX data dataN i4 fun a56 =>
 RUNU PG (storeVar 3 (Addr.add a56 (Int.toNat i4 * 1)) (.int .i64 x51)) (w4.drew) fun w5 =>
 IDX data dataN (IntKind.i64.wrap (i4 - (1 : Int))) fun a57 =>
 RUNU PG (storeVar 3 (Addr.add a57 (Int.toNat (IntKind.i64.wrap (i4 - (1 : Int))) * 1)) (.int .i64 x55)) w5 fun w6 =>
 ∃ R1 : World → Prop,
 (IFB (decide ((IntKind.i64.wrap (i4 - a)) ≥ (2 : Int)))
 (LETI (IntKind.i64.wrap (i4 - (1 : Int))) fun j1 =>
 ∃ I2 : Nat → Int → World → Prop,
 (∃ m5, I2 m5 j1 w6) ∧
 (∀ m6 (j2 : Int) (w7 : World), I2 m6 j2 w7 → (IFB (decide (j2 ≥ (1 : Int)))
 (IDX data dataN j2 fun a70 =>
 RDI PG (loadVar 3 (Addr.add a70 (Int.toNat j2 * 1))) .i64 (w7.drew) fun x71 =>
 IDX data dataN (IntKind.i64.wrap (j2 - (1 : Int))) fun a75 =>
 RDI PG (loadVar 3 (Addr.add a75 (Int.toNat (IntKind.i64.wrap (j2 - (1 : Int))) * 1))) .i64 (w7.drew) fun x76 =>
 CALL PG 153 [(.int .i64 x71), (.int .i64 x76)] (w7.drew) fun v1 w8 =>
 ∃ x77 : Bool, v1 = (.bool x77) ∧
 (IFB (!x77)
 (R1 w8)
 (IDX data dataN (IntKind.i64.wrap (j2 - (1 : Int))) fun a87 =>
 RDI PG (loadVar 3 (Addr.add a87 (Int.toNat (IntKind.i64.wrap (j2 - (1 : Int))) * 1))) .i64 (w8.drew) fun x88 =>
 IDX data dataN j2 fun a91 =>
 RDI PG (loadVar 3 (Addr.add a91 (Int.toNat j2 * 1))) .i64 (w8.drew) fun x92 =>
 IDX data dataN j2 fun a93 =>
 RUNU PG (storeVar 3 (Addr.add a93 (Int.toNat j2 * 1)) (.int .i64 x88)) (w8.drew) fun w9 =>
 IDX data dataN (IntKind.i64.wrap (j2 - (1 : Int))) fun a94 =>
 RUNU PG (storeVar 3 (Addr.add a94 (Int.toNat (IntKind.i64.wrap (j2 - (1 : Int))) * 1)) (.int .i64 x92)) w9 fun w10 =>
 LETI (IntKind.i64.wrap (j2 - (1 : Int))) fun j3 =>
 ∃ m7, m7 < m6 ∧ I2 m7 j3 w10)))
 (R1 w7))))
 (R1 w6)) ∧
 (∀  (w11 : World), R1 w11 → (IFB (decide ((IntKind.i64.wrap (b - i4)) ≥ (2 : Int)))
 (LETI (IntKind.i64.wrap (i4 + (1 : Int))) fun j4 =>
 ∃ I3 : Nat → Int → World → Prop,
 (∃ m8, I3 m8 j4 w11) ∧
 (∀ m9 (j5 : Int) (w12 : World), I3 m9 j5 w12 → (IFB (decide (j5 < b))
 (IDX data dataN j5 fun a108 =>
 RDI PG (loadVar 3 (Addr.add a108 (Int.toNat j5 * 1))) .i64 (w12.drew) fun x109 =>
 IDX data dataN (IntKind.i64.wrap (j5 - (1 : Int))) fun a113 =>
 RDI PG (loadVar 3 (Addr.add a113 (Int.toNat (IntKind.i64.wrap (j5 - (1 : Int))) * 1))) .i64 (w12.drew) fun x114 =>
 CALL PG 153 [(.int .i64 x109), (.int .i64 x114)] (w12.drew) fun v2 w13 =>
 ∃ x115 : Bool, v2 = (.bool x115) ∧
 (IFB (!x115)
 (LETI (IntKind.i64.wrap (j + (1 : Int))) fun j6 =>
 ∃ m10, m10 < m1 ∧ I m10 i4 j6 w13)
 (IDX data dataN (IntKind.i64.wrap (j5 - (1 : Int))) fun a125 =>
 RDI PG (loadVar 3 (Addr.add a125 (Int.toNat (IntKind.i64.wrap (j5 - (1 : Int))) * 1))) .i64 (w13.drew) fun x126 =>
 IDX data dataN j5 fun a129 =>
 RDI PG (loadVar 3 (Addr.add a129 (Int.toNat j5 * 1))) .i64 (w13.drew) fun x130 =>
 IDX data dataN j5 fun a131 =>
 RUNU PG (storeVar 3 (Addr.add a131 (Int.toNat j5 * 1)) (.int .i64 x126)) (w13.drew) fun w14 =>
 IDX data dataN (IntKind.i64.wrap (j5 - (1 : Int))) fun a132 =>
 RUNU PG (storeVar 3 (Addr.add a132 (Int.toNat (IntKind.i64.wrap (j5 - (1 : Int))) * 1)) (.int .i64 x130)) w14 fun w15 =>
 LETI (IntKind.i64.wrap (j5 + (1 : Int))) fun j7 =>
 ∃ m11, m11 < m9 ∧ I3 m11 j7 w15)))
 (LETI (IntKind.i64.wrap (j + (1 : Int))) fun j8 =>
 ∃ m12, m12 < m1 ∧ I m12 i4 j8 w12))))
 (LETI (IntKind.i64.wrap (j + (1 : Int))) fun j9 =>
 ∃ m13, m13 < m1 ∧ I m13 i4 j9 w11))))))))
 (Q (.bool false) w1)))
theorem eq152 : ∀ (data : Option Addr) (dataN dataC : Nat) (a : Int) (b : Int) (w : World) (Q : Value → World → Prop), vcF PG TB Try.f152 (.s .nil (.s .nil (.s (.s .nil (.u (.loop [(7, 3), (8, 3)] (.s .nil (.s (.u (.cut [(7, 3)] (.u (.loop [(7, 3)] .nil)) (.s .nil (.s .nil (.s .nil (.cut [] (.s .nil (.c (.s .nil (.u (.loop [(9, 3)] .nil))) .nil)) (.s .nil (.c (.s .nil (.u (.loop [(10, 3)] .nil))) .nil)))))))) .nil))))) .nil))) [(.slice data dataN dataC), (.int .i64 a), (.int .i64 b)] w Q = N152 data dataN dataC a b w Q := by intros; kernel_rfl
theorem call152 {data : Option Addr} {dataN dataC : Nat} {a : Int} {b : Int} {w : World} {Q : Value → World → Prop} (hN : N152 data dataN dataC a b w Q) : CALL PG 152 [(.slice data dataN dataC), (.int .i64 a), (.int .i64 b)] w Q := calls_vc tabOk Try.func152 (by rw [eq152]; exact hN)

end Go.Br
