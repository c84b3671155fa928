/- What the code of some functions says, as the core reads it; each reading is checked by the kernel. -/
import Derived.Test.YtggajodoaooafaaBrSeat
set_option linter.unusedVariables false
set_option maxRecDepth 100000
namespace Go.Br
open Go Go.Proofs

/-- brougham/broughamlaw06.SpansPlay -/
def N14 (many : Int) (l : Option Addr) (lN lC : Nat) (x : Int) (x1 : Int) (x2 : Int) (w : World) (Q : Value → World → Prop) : Prop :=
 RUNA PG (Instr.box 118 (.agg #[(.int .i64 x), (.int .u64 x1), (.int .u64 x2)])) w fun a5 w1 =>
 IFB (decide ((lN : Int) > (100 : Int)))
 (Q (.bool true) w1)
 (CALL PG 52 [(.int .i64 many)] w1 fun v w2 =>
 ∃ x19 : Option Addr, v = (.pointer x19) ∧
 (IFB (x19.isNone)
 (Q (.bool false) w2)
 (∃ I : Nat → Option Addr → Nat → Nat → Int → World → Prop,
 (∃ m, I m none 0 0 (0 : Int) w2) ∧
 (∀ m1 (r : Option Addr) (rN rC : Nat) (i : Int) (w3 : World), I m1 r rN rC i w3 → (IFB (decide (i < (lN : Int)))
 (∃ R : Option Addr → Nat → Nat → World → Prop,
 (IDX l lN i fun a30 =>
 RDI PG (loadVar 3 (Addr.add (Addr.add a30 (Int.toNat i * 3)) 0)) .i64 w3 fun x32 =>
 NEED ((5 : Int) ≠ 0)
 (NEED ((5 : Int) ≠ 0)
 (IFB ((Int.tmod (IntKind.i64.wrap ((Int.tmod x32 (5 : Int)) + (5 : Int))) (5 : Int)) == (4 : Int))
 (IDX l lN i fun a40 =>
 RDI PG (loadVar 56 (Addr.add (Addr.add a40 (Int.toNat i * 3)) 1)) .u64 w3 fun x42 =>
 CALL PG 59 [(.pointer x19), (.int .u64 x42)] w3 fun v1 w4 =>
 v1 = (.tuple #[]) ∧
 (IDX l lN i fun a47 =>
 RDI PG (loadVar 56 (Addr.add (Addr.add a47 (Int.toNat i * 3)) 1)) .u64 w4 fun x49 =>
 CALL PG 60 [(.slice r rN rC), (.int .u64 x49)] w4 fun v2 w5 =>
 ∃ (x50 : Option Addr) (x50N x50C : Nat), v2 = (.slice x50 x50N x50C) ∧
 (R x50 x50N x50C w5)))
 (∃ S : World → Prop, S (w3.drew) ∧
 (IDX l lN i fun a55 =>
 RDSI PG (loadVar 56 (Addr.add (Addr.add a55 (Int.toNat i * 3)) 1)) .u64 S fun x57 =>
 IDX l lN i fun a60 =>
 RDSI PG (loadVar 56 (Addr.add (Addr.add a60 (Int.toNat i * 3)) 2)) .u64 S fun x62 =>
 CALL PG 62 [(.int .i64 many)] (w3.drew) fun v3 w6 =>
 ∃ x64 : Int, v3 = (.int .i64 x64) ∧
 (∃ S1 : World → Prop, (∀ x, S1 x → S x) ∧ S1 w6 ∧
 (CALL PG 61 [(.slice r rN rC), (.int .u64 x57), (.int .u64 x62), (.int .i64 x64)] w6 fun v4 w7 =>
 ∃ (x65 : Option Addr) (x65N x65C : Nat), ∃ x65v1 : Bool, v4 = (.tuple #[(.slice x65 x65N x65C), (.bool x65v1)]) ∧
 (LETB x65v1 fun okv =>
 IDX l lN i fun a71 =>
 RDI PG (loadVar 56 (Addr.add (Addr.add a71 (Int.toNat i * 3)) 1)) .u64 (w7.drew) fun x73 =>
 IDX l lN i fun a76 =>
 RDI PG (loadVar 56 (Addr.add (Addr.add a76 (Int.toNat i * 3)) 2)) .u64 (w7.drew) fun x78 =>
 CALL PG 53 [(.pointer x19), (.int .u64 x73), (.int .u64 x78)] (w7.drew) fun v5 w8 =>
 ∃ x79 : Bool, v5 = (.bool x79) ∧
 (IFB (!(x79 == okv))
 (Q (.bool false) w8)
 (R x65 x65N x65C w8)))))))))) ∧
 (∀ (r1 : Option Addr) (rN1 rC1 : Nat) (w9 : World), R r1 rN1 rC1 w9 → (CALL PG 65 [(.pointer x19)] w9 fun v6 w10 =>
 ∃ (x83 : Option Addr) (x83N x83C : Nat), v6 = (.slice x83 x83N x83C) ∧
 (CALL PG 64 [(.slice x83 x83N x83C)] w10 fun v7 w11 =>
 ∃ (x84 : Option Addr) (x84N x84C : Nat), v7 = (.slice x84 x84N x84C) ∧
 (CALL PG 63 [(.slice x84 x84N x84C), (.slice r1 rN1 rC1)] w11 fun v8 w12 =>
 ∃ x86 : Bool, v8 = (.bool x86) ∧
 (IFB (!x86)
 (Q (.bool false) w12)
 (CALL PG 62 [(.int .i64 many)] w12 fun v9 w13 =>
 ∃ x92 : Int, v9 = (.int .i64 x92) ∧
 (IFB (decide ((rN1 : Int) > x92))
 (Q (.bool false) w13)
 (LETI (IntKind.i64.wrap (i + (1 : Int))) fun i1 =>
 ∃ m2, m2 < m1 ∧ I m2 r1 rN1 rC1 i1 w13)))))))))
 (∃ I1 : Nat → Int → Int → World → Prop,
 (∃ m3, I1 m3 (0 : Int) (0 : Int) w3) ∧
 (∀ m4 (sum : Int) (i2 : Int) (w14 : World), I1 m4 sum i2 w14 → (IFB (decide (i2 < (rN : Int)))
 (IDX r rN i2 fun a104 =>
 RDI PG (loadVar 56 (Addr.add (Addr.add a104 (Int.toNat i2 * 2)) 1)) .u64 (w14.drew) fun x106 =>
 IDX r rN i2 fun a109 =>
 RDI PG (loadVar 56 (Addr.add (Addr.add a109 (Int.toNat i2 * 2)) 0)) .u64 (w14.drew) fun x111 =>
 LETI (IntKind.u64.wrap (sum + (IntKind.u64.wrap (x106 - x111)))) fun sum1 =>
 LETI (IntKind.i64.wrap (i2 + (1 : Int))) fun i3 =>
 ∃ m5, m5 < m4 ∧ I1 m5 sum1 i3 (w14.drew))
 (RDI PG (loadVar 56 (Addr.add a5 1)) .u64 w14 fun x116 =>
 CALL PG 66 [(.slice r rN rC), (.int .u64 x116)] w14 fun v10 w15 =>
 ∃ x117 : Int, v10 = (.int .u64 x117) ∧
 (LETI x117 fun runv =>
 ∃ R1 : Bool → World → Prop,
 (RDI PG (loadVar 56 (Addr.add a5 1)) .u64 w15 fun x119 =>
 RDI PG (loadVar 56 (Addr.add a5 2)) .u64 w15 fun x121 =>
 IFB (decide (x119 ≥ x121))
 (LETB true fun covers =>
 R1 covers w15)
 (RDI PG (loadVar 56 (Addr.add a5 2)) .u64 w15 fun x126 =>
 LETB (decide (runv ≥ x126)) fun covers1 =>
 R1 covers1 w15)) ∧
 (∀ (covers2 : Bool) (w16 : World), R1 covers2 w16 → (∃ S2 : World → Prop, S2 (w16.drew) ∧
 (RDSI PG (loadVar 56 (Addr.add a5 1)) .u64 S2 fun x131 =>
 RDSI PG (loadVar 56 (Addr.add a5 1)) .u64 S2 fun x135 =>
 CALL PG 56 [(.pointer x19), (.int .u64 x131)] (w16.drew) fun v11 w17 =>
 ∃ x132 : Bool, v11 = (.bool x132) ∧
 (∃ S3 : World → Prop, (∀ x, S3 x → S2 x) ∧ S3 w17 ∧
 (IFB (x132 == (decide (runv > x135)))
 (RDSI PG (loadVar 56 (Addr.add a5 1)) .u64 S3 fun x141 =>
 CALL PG 67 [(.pointer x19), (.int .u64 x141)] w17 fun v12 w18 =>
 ∃ x142 : Int, v12 = (.int .u64 x142) ∧
 (IFB (x142 == runv)
 (RDI PG (loadVar 56 (Addr.add a5 1)) .u64 w18 fun x149 =>
 RDI PG (loadVar 56 (Addr.add a5 2)) .u64 w18 fun x151 =>
 CALL PG 57 [(.pointer x19), (.int .u64 x149), (.int .u64 x151)] w18 fun v13 w19 =>
 ∃ x152 : Bool, v13 = (.bool x152) ∧
 (∃ S4 : World → Prop, S4 w19 ∧
 (IFB (x152 == covers2)
 (RDSI PG (loadVar 56 (Addr.add a5 1)) .u64 S4 fun x159 =>
 RDSI PG (loadVar 56 (Addr.add a5 2)) .u64 S4 fun x161 =>
 RDSI PG (loadVar 56 (Addr.add a5 1)) .u64 S4 fun x166 =>
 RDSI PG (loadVar 56 (Addr.add a5 2)) .u64 S4 fun x168 =>
 CALL PG 55 [(.pointer x19), (.int .u64 x159), (.int .u64 x161)] w19 fun v14 w20 =>
 ∃ (x162 : Option Addr) (x162N x162C : Nat), v14 = (.slice x162 x162N x162C) ∧
 (∃ S5 : World → Prop, (∀ x, S5 x → S4 x) ∧ S5 w20 ∧
 (CALL PG 64 [(.slice x162 x162N x162C)] w20 fun v15 w21 =>
 ∃ (x163 : Option Addr) (x163N x163C : Nat), v15 = (.slice x163 x163N x163C) ∧
 (∃ S6 : World → Prop, (∀ x, S6 x → S5 x) ∧ S6 w21 ∧
 (CALL PG 68 [(.slice r rN rC), (.int .u64 x166), (.int .u64 x168)] w21 fun v16 w22 =>
 ∃ (x169 : Option Addr) (x169N x169C : Nat), v16 = (.slice x169 x169N x169C) ∧
 (CALL PG 63 [(.slice x163 x163N x163C), (.slice x169 x169N x169C)] w22 fun v17 w23 =>
 ∃ x170 : Bool, v17 = (.bool x170) ∧
 (IFB x170
 (CALL PG 54 [(.pointer x19)] w23 fun v18 w24 =>
 ∃ x174 : Int, v18 = (.int .u64 x174) ∧
 (IFB (x174 == sum)
 (CALL PG 58 [] w24 fun v19 w25 =>
 ∃ x179 : Bool, v19 = (.bool x179) ∧
 (LETB x179 fun x6 =>
 Q (.bool x6) w25))
 (LETB false fun x6v1 =>
 Q (.bool x6v1) w24)))
 (LETB false fun x6v2 =>
 Q (.bool x6v2) w23))))))))
 (LETB false fun x6v3 =>
 Q (.bool x6v3) w19))))
 (∃ S7 : World → Prop, S7 w18 ∧
 (LETB false fun x6v4 =>
 Q (.bool x6v4) w18))))
 (∃ S8 : World → Prop, S8 w17 ∧
 (LETB false fun x6v5 =>
 Q (.bool x6v5) w17)))))))))))))))))
theorem eq14 : ∀ (many : Int) (l : Option Addr) (lN lC : Nat) (x : Int) (x1 : Int) (x2 : Int) (w : World) (Q : Value → World → Prop), vcF PG TB Try.f14 (.s .nil (.s .nil (.s .nil (.s .nil (.s .nil (.s (.s .nil (.u (.loop [(8, 125), (9, 3)] (.s .nil (.s (.u (.cut [(8, 125)] .nil .nil)) .nil))))) (.s .nil (.s (.s .nil (.u (.loop [(11, 56), (12, 3)] .nil))) (.s .nil (.cut [(14, 4)] .nil .nil)))))))))) [(.int .i64 many), (.slice l lN lC), (.agg #[(.int .i64 x), (.int .u64 x1), (.int .u64 x2)])] w Q = N14 many l lN lC x x1 x2 w Q := by intros; kernel_rfl
theorem call14 {many : Int} {l : Option Addr} {lN lC : Nat} {x : Int} {x1 : Int} {x2 : Int} {w : World} {Q : Value → World → Prop} (hN : N14 many l lN lC x x1 x2 w Q) : CALL PG 14 [(.int .i64 many), (.slice l lN lC), (.agg #[(.int .i64 x), (.int .u64 x1), (.int .u64 x2)])] w Q := calls_vc tabOk Try.func14 (by rw [eq14]; exact hN)

end Go.Br
