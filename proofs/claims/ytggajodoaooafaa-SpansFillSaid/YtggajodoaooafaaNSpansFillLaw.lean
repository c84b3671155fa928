/- What the code of some functions says, as the core reads it; each reading is checked by the kernel. -/
import Derived.Test.YtggajodoaooafaaBrSeat
set_option linter.unusedVariables false
set_option maxRecDepth 100000
namespace Go.Br
open Go Go.Proofs

/-- brougham/broughamlaw06.SpansFill -/
def N13 (l : Option Addr) (lN lC : Nat) (fromv : Int) (tov : Int) (w : World) (Q : Value → World → Prop) : Prop :=
 IFB (decide ((lN : Int) > (30 : Int)))
 (Q (.bool true) w)
 (CALL PG 52 [(.int .i64 (64 : Int))] w fun v w1 =>
 ∃ x17 : Option Addr, v = (.pointer x17) ∧
 (IFB (x17.isNone)
 (Q (.bool false) w1)
 (∃ I : Nat → Int → World → Prop,
 (∃ m, I m (0 : Int) w1) ∧
 (∀ m1 (i : Int) (w2 : World), I m1 i w2 → (IFB (decide (i < (lN : Int)))
 (IDX l lN i fun a29 =>
 RDI PG (loadVar 56 (Addr.add (Addr.add a29 (Int.toNat i * 3)) 1)) .u64 (w2.drew) fun x31 =>
 IDX l lN i fun a34 =>
 RDI PG (loadVar 56 (Addr.add (Addr.add a34 (Int.toNat i * 3)) 2)) .u64 (w2.drew) fun x36 =>
 CALL PG 53 [(.pointer x17), (.int .u64 x31), (.int .u64 x36)] (w2.drew) fun v1 w3 =>
 ∃ x37 : Bool, v1 = (.bool x37) ∧
 (IFB (!x37)
 (Q (.bool false) w3)
 (LETI (IntKind.i64.wrap (i + (1 : Int))) fun i1 =>
 ∃ m2, m2 < m1 ∧ I m2 i1 w3)))
 (CALL PG 54 [(.pointer x17)] w2 fun v2 w4 =>
 ∃ x40 : Int, v2 = (.int .u64 x40) ∧
 (LETI x40 fun was =>
 CALL PG 55 [(.pointer x17), (.int .u64 fromv), (.int .u64 tov)] w4 fun v3 w5 =>
 ∃ (x44 : Option Addr) (x44N x44C : Nat), v3 = (.slice x44 x44N x44C) ∧
 (∃ I1 : Nat → Int → Int → World → Prop,
 (∃ m3, I1 m3 (0 : Int) (0 : Int) w5) ∧
 (∀ m4 (n : Int) (i2 : Int) (w6 : World), I1 m4 n i2 w6 → (IFB (decide (i2 < (x44N : Int)))
 (IDX x44 x44N i2 fun a53 =>
 RDI PG (loadVar 56 (Addr.add (Addr.add a53 (Int.toNat i2 * 2)) 0)) .u64 (w6.drew) fun x55 =>
 IDX x44 x44N i2 fun a58 =>
 RDI PG (loadVar 56 (Addr.add (Addr.add a58 (Int.toNat i2 * 2)) 1)) .u64 (w6.drew) fun x60 =>
 IFB (decide (x55 ≥ x60))
 (Q (.bool false) (w6.drew))
 (IDX x44 x44N i2 fun a66 =>
 RDI PG (loadVar 56 (Addr.add (Addr.add a66 (Int.toNat i2 * 2)) 0)) .u64 (w6.drew) fun x68 =>
 CALL PG 56 [(.pointer x17), (.int .u64 x68)] (w6.drew) fun v4 w7 =>
 ∃ x69 : Bool, v4 = (.bool x69) ∧
 (IFB x69
 (Q (.bool false) w7)
 (IDX x44 x44N i2 fun a75 =>
 RDI PG (loadVar 56 (Addr.add (Addr.add a75 (Int.toNat i2 * 2)) 1)) .u64 w7 fun x77 =>
 CALL PG 56 [(.pointer x17), (.int .u64 (IntKind.u64.wrap (x77 - (1 : Int))))] w7 fun v5 w8 =>
 ∃ x79 : Bool, v5 = (.bool x79) ∧
 (IFB x79
 (Q (.bool false) w8)
 (IDX x44 x44N i2 fun a84 =>
 RDI PG (loadVar 56 (Addr.add (Addr.add a84 (Int.toNat i2 * 2)) 0)) .u64 w8 fun x86 =>
 IFB (decide (x86 < fromv))
 (Q (.bool false) w8)
 (IDX x44 x44N i2 fun a93 =>
 RDI PG (loadVar 56 (Addr.add (Addr.add a93 (Int.toNat i2 * 2)) 1)) .u64 w8 fun x95 =>
 IFB (decide (x95 > tov))
 (Q (.bool false) w8)
 (IDX x44 x44N i2 fun a102 =>
 RDI PG (loadVar 56 (Addr.add (Addr.add a102 (Int.toNat i2 * 2)) 1)) .u64 (w8.drew) fun x104 =>
 IDX x44 x44N i2 fun a107 =>
 RDI PG (loadVar 56 (Addr.add (Addr.add a107 (Int.toNat i2 * 2)) 0)) .u64 (w8.drew) fun x109 =>
 LETI (IntKind.u64.wrap (n + (IntKind.u64.wrap (x104 - x109)))) fun n1 =>
 LETI (IntKind.i64.wrap (i2 + (1 : Int))) fun i3 =>
 ∃ m5, m5 < m4 ∧ I1 m5 n1 i3 (w8.drew)))))))))
 (∃ I2 : Nat → Int → World → Prop,
 (∃ m6, I2 m6 (0 : Int) w6) ∧
 (∀ m7 (i4 : Int) (w9 : World), I2 m7 i4 w9 → (IFB (decide (i4 < (x44N : Int)))
 (IDX x44 x44N i4 fun a121 =>
 RDI PG (loadVar 56 (Addr.add (Addr.add a121 (Int.toNat i4 * 2)) 0)) .u64 (w9.drew) fun x123 =>
 IDX x44 x44N i4 fun a126 =>
 RDI PG (loadVar 56 (Addr.add (Addr.add a126 (Int.toNat i4 * 2)) 1)) .u64 (w9.drew) fun x128 =>
 CALL PG 53 [(.pointer x17), (.int .u64 x123), (.int .u64 x128)] (w9.drew) fun v6 w10 =>
 ∃ x129 : Bool, v6 = (.bool x129) ∧
 (IFB (!x129)
 (Q (.bool false) w10)
 (LETI (IntKind.i64.wrap (i4 + (1 : Int))) fun i5 =>
 ∃ m8, m8 < m7 ∧ I2 m8 i5 w10)))
 (CALL PG 57 [(.pointer x17), (.int .u64 fromv), (.int .u64 tov)] w9 fun v7 w11 =>
 ∃ x134 : Bool, v7 = (.bool x134) ∧
 (IFB x134
 (CALL PG 54 [(.pointer x17)] w11 fun v8 w12 =>
 ∃ x137 : Int, v8 = (.int .u64 x137) ∧
 (IFB (x137 == (IntKind.u64.wrap (was + n)))
 (CALL PG 55 [(.pointer x17), (.int .u64 fromv), (.int .u64 tov)] w12 fun v9 w13 =>
 ∃ (x147 : Option Addr) (x147N x147C : Nat), v9 = (.slice x147 x147N x147C) ∧
 (IFB ((x147N : Int) == (0 : Int))
 (CALL PG 58 [] w13 fun v10 w14 =>
 ∃ x152 : Bool, v10 = (.bool x152) ∧
 (LETB x152 fun x6 =>
 Q (.bool x6) w14))
 (LETB false fun x6v1 =>
 Q (.bool x6v1) w13)))
 (LETB false fun x6v2 =>
 Q (.bool x6v2) w12)))
 (LETB false fun x6v3 =>
 Q (.bool x6v3) w11))))))))))))))))
theorem eq13 : ∀ (l : Option Addr) (lN lC : Nat) (fromv : Int) (tov : Int) (w : World) (Q : Value → World → Prop), vcF PG TB Try.f13 (.s .nil (.s .nil (.s .nil (.s .nil (.s (.s .nil (.u (.loop [(8, 3)] .nil))) (.s .nil (.s .nil (.s .nil (.s (.s .nil (.u (.loop [(11, 56), (12, 3)] .nil))) (.s (.s .nil (.u (.loop [(13, 3)] .nil))) .nil)))))))))) [(.slice l lN lC), (.int .u64 fromv), (.int .u64 tov)] w Q = N13 l lN lC fromv tov w Q := by intros; kernel_rfl
theorem call13 {l : Option Addr} {lN lC : Nat} {fromv : Int} {tov : Int} {w : World} {Q : Value → World → Prop} (hN : N13 l lN lC fromv tov w Q) : CALL PG 13 [(.slice l lN lC), (.int .u64 fromv), (.int .u64 tov)] w Q := calls_vc tabOk Try.func13 (by rw [eq13]; exact hN)

end Go.Br
