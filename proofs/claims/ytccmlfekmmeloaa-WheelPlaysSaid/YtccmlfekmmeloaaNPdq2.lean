/- What the code of some functions says, as the core reads it; each reading is checked by the kernel. -/
import Derived.Test.YtccmlfekmmeloaaBrSeat
set_option linter.unusedVariables false
set_option maxRecDepth 100000
namespace Go.Br
open Go Go.Proofs

/-- slices.partitionOrdered[int] -/
def N155 (data : Option Addr) (dataN dataC : Nat) (a : Int) (b : Int) (pivot : Int) (w : World) (Q : Value → World → Prop) : Prop :=
 IDX data dataN pivot fun a18 =>
 RDI PG (loadVar 3 (Addr.add a18 (Int.toNat pivot * 1))) .i64 (w.drew) fun x19 =>
 IDX data dataN a fun a22 =>
 RDI PG (loadVar 3 (Addr.add a22 (Int.toNat a * 1))) .i64 (w.drew) fun x23 =>
 IDX data dataN a fun a24 =>
 RUNU PG (storeVar 3 (Addr.add a24 (Int.toNat a * 1)) (.int .i64 x19)) (w.drew) fun w1 =>
 IDX data dataN pivot fun a25 =>
 RUNU PG (storeVar 3 (Addr.add a25 (Int.toNat pivot * 1)) (.int .i64 x23)) w1 fun w2 =>
 LETI (IntKind.i64.wrap (a + (1 : Int))) fun i =>
 LETI (IntKind.i64.wrap (b - (1 : Int))) fun j =>
 ∃ R : Int → World → Prop,
 (∃ I : Nat → Int → World → Prop,
 (∃ m, I m i w2) ∧
 (∀ m1 (i1 : Int) (w3 : World), I m1 i1 w3 → (IFB (decide (i1 ≤ j))
 (IDX data dataN i1 fun a36 =>
 RDI PG (loadVar 3 (Addr.add a36 (Int.toNat i1 * 1))) .i64 (w3.drew) fun x37 =>
 IDX data dataN a fun a40 =>
 RDI PG (loadVar 3 (Addr.add a40 (Int.toNat a * 1))) .i64 (w3.drew) fun x41 =>
 CALL PG 153 [(.int .i64 x37), (.int .i64 x41)] (w3.drew) fun v w4 =>
 ∃ x42 : Bool, v = (.bool x42) ∧
 (IFB x42
 (LETI (IntKind.i64.wrap (i1 + (1 : Int))) fun i2 =>
 ∃ m2, m2 < m1 ∧ I m2 i2 w4)
 (R i1 w4)))
 (R i1 (w3.drew))))) ∧
 (∀ (i3 : Int) (w5 : World), R i3 w5 → (∃ R1 : Int → World → Prop,
 (∃ I1 : Nat → Int → World → Prop,
 (∃ m3, I1 m3 j w5) ∧
 (∀ m4 (j1 : Int) (w6 : World), I1 m4 j1 w6 → (IFB (decide (i3 ≤ j1))
 (IDX data dataN j1 fun a52 =>
 RDI PG (loadVar 3 (Addr.add a52 (Int.toNat j1 * 1))) .i64 (w6.drew) fun x53 =>
 IDX data dataN a fun a56 =>
 RDI PG (loadVar 3 (Addr.add a56 (Int.toNat a * 1))) .i64 (w6.drew) fun x57 =>
 CALL PG 153 [(.int .i64 x53), (.int .i64 x57)] (w6.drew) fun v1 w7 =>
 ∃ x58 : Bool, v1 = (.bool x58) ∧
 (IFB (!x58)
 (LETI (IntKind.i64.wrap (j1 - (1 : Int))) fun j2 =>
 ∃ m5, m5 < m4 ∧ I1 m5 j2 w7)
 (R1 j1 w7)))
 (R1 j1 (w6.drew))))) ∧
 (∀ (j3 : Int) (w8 : World), R1 j3 w8 → (IFB (decide (i3 > j3))
 (IDX data dataN a fun a72 =>
 RDI PG (loadVar 3 (Addr.add a72 (Int.toNat a * 1))) .i64 (w8.drew) fun x73 =>
 IDX data dataN j3 fun a76 =>
 RDI PG (loadVar 3 (Addr.add a76 (Int.toNat j3 * 1))) .i64 (w8.drew) fun x77 =>
 IDX data dataN j3 fun a78 =>
 RUNU PG (storeVar 3 (Addr.add a78 (Int.toNat j3 * 1)) (.int .i64 x73)) (w8.drew) fun w9 =>
 IDX data dataN a fun a79 =>
 RUNU PG (storeVar 3 (Addr.add a79 (Int.toNat a * 1)) (.int .i64 x77)) w9 fun w10 =>
 LETI j3 fun newpivot =>
 Q (.tuple #[(.int .i64 newpivot), (.bool true)]) w10)
 (IDX data dataN j3 fun a87 =>
 RDI PG (loadVar 3 (Addr.add a87 (Int.toNat j3 * 1))) .i64 (w8.drew) fun x88 =>
 IDX data dataN i3 fun a91 =>
 RDI PG (loadVar 3 (Addr.add a91 (Int.toNat i3 * 1))) .i64 (w8.drew) fun x92 =>
 IDX data dataN i3 fun a93 =>
 RUNU PG (storeVar 3 (Addr.add a93 (Int.toNat i3 * 1)) (.int .i64 x88)) (w8.drew) fun w11 =>
 IDX data dataN j3 fun a94 =>
 RUNU PG (storeVar 3 (Addr.add a94 (Int.toNat j3 * 1)) (.int .i64 x92)) w11 fun w12 =>
 LETI (IntKind.i64.wrap (i3 + (1 : Int))) fun i4 =>
 LETI (IntKind.i64.wrap (j3 - (1 : Int))) fun j4 =>
 ∃ R2 : Int → World → Prop,
 (∃ I2 : Nat → Int → Int → World → Prop,
 (∃ m6, I2 m6 i4 j4 w12) ∧
 (∀ m7 (i5 : Int) (j5 : Int) (w13 : World), I2 m7 i5 j5 w13 → (∃ R3 : Int → World → Prop,
 (∃ I3 : Nat → Int → World → Prop,
 (∃ m8, I3 m8 i5 w13) ∧
 (∀ m9 (i6 : Int) (w14 : World), I3 m9 i6 w14 → (IFB (decide (i6 ≤ j5))
 (IDX data dataN i6 fun a105 =>
 RDI PG (loadVar 3 (Addr.add a105 (Int.toNat i6 * 1))) .i64 (w14.drew) fun x106 =>
 IDX data dataN a fun a109 =>
 RDI PG (loadVar 3 (Addr.add a109 (Int.toNat a * 1))) .i64 (w14.drew) fun x110 =>
 CALL PG 153 [(.int .i64 x106), (.int .i64 x110)] (w14.drew) fun v2 w15 =>
 ∃ x111 : Bool, v2 = (.bool x111) ∧
 (IFB x111
 (LETI (IntKind.i64.wrap (i6 + (1 : Int))) fun i7 =>
 ∃ m10, m10 < m9 ∧ I3 m10 i7 w15)
 (R3 i6 w15)))
 (R3 i6 (w14.drew))))) ∧
 (∀ (i8 : Int) (w16 : World), R3 i8 w16 → (∃ R4 : Int → World → Prop,
 (∃ I4 : Nat → Int → World → Prop,
 (∃ m11, I4 m11 j5 w16) ∧
 (∀ m12 (j6 : Int) (w17 : World), I4 m12 j6 w17 → (IFB (decide (i8 ≤ j6))
 (IDX data dataN j6 fun a121 =>
 RDI PG (loadVar 3 (Addr.add a121 (Int.toNat j6 * 1))) .i64 (w17.drew) fun x122 =>
 IDX data dataN a fun a125 =>
 RDI PG (loadVar 3 (Addr.add a125 (Int.toNat a * 1))) .i64 (w17.drew) fun x126 =>
 CALL PG 153 [(.int .i64 x122), (.int .i64 x126)] (w17.drew) fun v3 w18 =>
 ∃ x127 : Bool, v3 = (.bool x127) ∧
 (IFB (!x127)
 (LETI (IntKind.i64.wrap (j6 - (1 : Int))) fun j7 =>
 ∃ m13, m13 < m12 ∧ I4 m13 j7 w18)
 (R4 j6 w18)))
 (R4 j6 (w17.drew))))) ∧
 (∀ (j8 : Int) (w19 : World), R4 j8 w19 → (IFB (decide (i8 > j8))
 (R2 j8 w19)
 (IDX data dataN j8 fun a141 =>
 RDI PG (loadVar 3 (Addr.add a141 (Int.toNat j8 * 1))) .i64 (w19.drew) fun x142 =>
 IDX data dataN i8 fun a145 =>
 RDI PG (loadVar 3 (Addr.add a145 (Int.toNat i8 * 1))) .i64 (w19.drew) fun x146 =>
 IDX data dataN i8 fun a147 =>
 RUNU PG (storeVar 3 (Addr.add a147 (Int.toNat i8 * 1)) (.int .i64 x142)) (w19.drew) fun w20 =>
 IDX data dataN j8 fun a148 =>
 RUNU PG (storeVar 3 (Addr.add a148 (Int.toNat j8 * 1)) (.int .i64 x146)) w20 fun w21 =>
 LETI (IntKind.i64.wrap (i8 + (1 : Int))) fun i9 =>
 LETI (IntKind.i64.wrap (j8 - (1 : Int))) fun j9 =>
 ∃ m14, m14 < m7 ∧ I2 m14 i9 j9 w21)))))))) ∧
 (∀ (j10 : Int) (w22 : World), R2 j10 w22 → (IDX data dataN a fun a159 =>
 RDI PG (loadVar 3 (Addr.add a159 (Int.toNat a * 1))) .i64 (w22.drew) fun x160 =>
 IDX data dataN j10 fun a163 =>
 RDI PG (loadVar 3 (Addr.add a163 (Int.toNat j10 * 1))) .i64 (w22.drew) fun x164 =>
 IDX data dataN j10 fun a165 =>
 RUNU PG (storeVar 3 (Addr.add a165 (Int.toNat j10 * 1)) (.int .i64 x160)) (w22.drew) fun w23 =>
 IDX data dataN a fun a166 =>
 RUNU PG (storeVar 3 (Addr.add a166 (Int.toNat a * 1)) (.int .i64 x164)) w23 fun w24 =>
 LETI j10 fun newpivot1 =>
 Q (.tuple #[(.int .i64 newpivot1), (.bool false)]) w24)))))))
theorem eq155 : ∀ (data : Option Addr) (dataN dataC : Nat) (a : Int) (b : Int) (pivot : Int) (w : World) (Q : Value → World → Prop), vcF PG TB Try.f155 (.s .nil (.s .nil (.s .nil (.cut [(10, 3)] (.u (.loop [(10, 3)] .nil)) (.cut [(11, 3)] (.u (.loop [(11, 3)] .nil)) (.s .nil (.s .nil (.s .nil (.s .nil (.cut [(11, 3)] (.u (.loop [(10, 3), (11, 3)] (.u (.cut [(10, 3)] (.u (.loop [(10, 3)] .nil)) (.cut [(11, 3)] (.u (.loop [(11, 3)] .nil)) .nil))))) .nil)))))))))) [(.slice data dataN dataC), (.int .i64 a), (.int .i64 b), (.int .i64 pivot)] w Q = N155 data dataN dataC a b pivot w Q := by intros; kernel_rfl
theorem call155 {data : Option Addr} {dataN dataC : Nat} {a : Int} {b : Int} {pivot : Int} {w : World} {Q : Value → World → Prop} (hN : N155 data dataN dataC a b pivot w Q) : CALL PG 155 [(.slice data dataN dataC), (.int .i64 a), (.int .i64 b), (.int .i64 pivot)] w Q := calls_vc tabOk Try.func155 (by rw [eq155]; exact hN)

end Go.Br
