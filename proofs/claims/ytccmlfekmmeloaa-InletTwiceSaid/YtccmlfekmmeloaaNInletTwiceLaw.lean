/- What the code of some functions says, as the core reads it; each reading is checked by the kernel. -/
import Derived.Test.YtccmlfekmmeloaaBrSeat
set_option linter.unusedVariables false
set_option maxRecDepth 100000
namespace Go.Br
open Go Go.Proofs

/-- brougham/broughamlaw18.InletTwice -/
def N6 (sizev : Int) (l : Option Addr) (lN lC : Nat) (o : Int) (o1 : Int) (o2 : Int) (o3 : Bool) (o4 : Option Addr) (oN oC : Nat) (w : World) (Q : Value → World → Prop) : Prop :=
 RUNA PG (Instr.box 69 (.agg #[(.int .i64 o), (.int .i64 o1), (.int .u64 o2), (.bool o3), (.slice o4 oN oC)])) w fun a5 w1 =>
 CALL PG 24 [(.slice l lN lC)] w1 fun v w2 =>
 ∃ x18 : Bool, v = (.bool x18) ∧
 (IFB x18
 (Q (.bool true) w2)
 (IFB (decide (sizev < (1 : Int)))
 (Q (.bool true) w2)
 (IFB (decide (sizev > (200 : Int)))
 (Q (.bool true) w2)
 (RDL PG (loadVar 58 (Addr.add a5 4)) w2 fun x29 x29N x29C =>
 IFB (decide ((x29N : Int) > (300 : Int)))
 (Q (.bool true) w2)
 (CALL PG 25 [(.int .i64 sizev), (.int .i64 (4 : Int))] w2 fun v1 w3 =>
 ∃ x35 : Option Addr, ∃ x35v1 : Int, v1 = (.tuple #[(.pointer x35), (.int .i64 x35v1)]) ∧
 (LETI x35v1 fun e =>
 IFB (e != (0 : Int))
 (Q (.bool false) w3)
 (IFB (x35.isNone)
 (Q (.bool false) w3)
 (NILC x35 fun a46 =>
 RDP PG (loadVar 64 (Addr.add a46 0)) w3 fun x48 =>
 IFB (x48.isNone)
 (Q (.bool false) w3)
 (CALL PG 32 [(.int .i64 sizev), (.int .i64 (4 : Int))] w3 fun v2 w4 =>
 ∃ x52 : Int, ∃ (x52v1 : Option Addr) (x52N x52C : Nat), ∃ (x52v2 : Option Addr) (x52N1 x52C1 : Nat), ∃ x52v3 : Int, ∃ x52v4 : Int, ∃ x52v5 : Bool, v2 = (.agg #[(.int .u64 x52), (.slice x52v1 x52N x52C), (.slice x52v2 x52N1 x52C1), (.int .i64 x52v3), (.int .u64 x52v4), (.bool x52v5)]) ∧
 (RUNA PG (Instr.alloc 78 true (.tuple #[])) w4 fun a9 w5 =>
 RUNU PG (storeVar 78 a9 (.agg #[(.int .u64 x52), (.slice x52v1 x52N x52C), (.slice x52v2 x52N1 x52C1), (.int .i64 x52v3), (.int .u64 x52v4), (.bool x52v5)])) w5 fun w6 =>
 ∃ I : Nat → Int → World → Prop,
 (∃ m, I m (0 : Int) w6) ∧
 (∀ m1 (i : Int) (w7 : World), I m1 i w7 → (IFB (decide (i < (lN : Int)))
 (RD PG (loadVar 78 a9) (w7.drew) fun v3 =>
 ∃ x61 : Int, ∃ (x61v1 : Option Addr) (x61N x61C : Nat), ∃ (x61v2 : Option Addr) (x61N1 x61C1 : Nat), ∃ x61v3 : Int, ∃ x61v4 : Int, ∃ x61v5 : Bool, v3 = (.agg #[(.int .u64 x61), (.slice x61v1 x61N x61C), (.slice x61v2 x61N1 x61C1), (.int .i64 x61v3), (.int .u64 x61v4), (.bool x61v5)]) ∧
 (IDX l lN i fun a64 =>
 RD PG (loadVar 69 (Addr.add a64 (Int.toNat i * 5))) (w7.drew) fun v4 =>
 ∃ x65 : Int, ∃ x65v1 : Int, ∃ x65v2 : Int, ∃ x65v3 : Bool, ∃ (x65v4 : Option Addr) (x65N x65C : Nat), v4 = (.agg #[(.int .i64 x65), (.int .i64 x65v1), (.int .u64 x65v2), (.bool x65v3), (.slice x65v4 x65N x65C)]) ∧
 (CALL PG 33 [(.pointer x35), (.agg #[(.int .u64 x61), (.slice x61v1 x61N x61C), (.slice x61v2 x61N1 x61C1), (.int .i64 x61v3), (.int .u64 x61v4), (.bool x61v5)]), (.agg #[(.int .i64 x65), (.int .i64 x65v1), (.int .u64 x65v2), (.bool x65v3), (.slice x65v4 x65N x65C)])] (w7.drew) fun v5 w8 =>
 ∃ x66 : Int, ∃ (x66v1 : Option Addr) (x66N x66C : Nat), ∃ (x66v2 : Option Addr) (x66N1 x66C1 : Nat), ∃ x66v3 : Int, ∃ x66v4 : Int, ∃ x66v5 : Bool, ∃ x66v6 : Bool, v5 = (.tuple #[(.agg #[(.int .u64 x66), (.slice x66v1 x66N x66C), (.slice x66v2 x66N1 x66C1), (.int .i64 x66v3), (.int .u64 x66v4), (.bool x66v5)]), (.bool x66v6)]) ∧
 (∃ S : World → Prop, S w8 ∧
 (RUNU PG (storeVar 78 a9 (.agg #[(.int .u64 x66), (.slice x66v1 x66N x66C), (.slice x66v2 x66N1 x66C1), (.int .i64 x66v3), (.int .u64 x66v4), (.bool x66v5)])) w8 fun w9 =>
 ∃ S1 : World → Prop, (∀ x, S1 x → S x) ∧ S1 w9 ∧
 (LETI (IntKind.i64.wrap (i + (1 : Int))) fun i1 =>
 ∃ m2, m2 < m1 ∧ I m2 i1 w9))))))
 (∃ S2 : World → Prop, S2 (w7.drew) ∧
 (RDSI PG (loadVar 42 (Addr.add a5 2)) .u64 S2 fun x72 =>
 NEED ((IntKind.u64.wrap (IntKind.i64.wrap ((2 : Int) * sizev))) ≠ 0)
 (CALL PG 34 [(.pointer x35)] (w7.drew) fun v6 w10 =>
 ∃ x70 : Int, v6 = (.int .u64 x70) ∧
 (∃ S3 : World → Prop, (∀ x, S3 x → S2 x) ∧ S3 w10 ∧
 (LETI (IntKind.u64.wrap (x70 + (Int.tmod x72 (IntKind.u64.wrap (IntKind.i64.wrap ((2 : Int) * sizev)))))) fun atv =>
 RDL PG (loadVar 58 (Addr.add a5 4)) w10 fun x81 x81N x81C =>
 CALL PG 26 [(.pointer x35), (.int .u64 atv), (.slice x81 x81N x81C)] w10 fun v7 w11 =>
 ∃ x82 : Bool, v7 = (.bool x82) ∧
 (LETB x82 fun a =>
 CALL PG 28 [(.pointer x35)] w11 fun v8 w12 =>
 ∃ x84 : Int, v8 = (.int .u64 x84) ∧
 (CALL PG 35 [(.pointer x35)] w12 fun v9 w13 =>
 ∃ x86 : Int, v9 = (.int .i64 x86) ∧
 (CALL PG 36 [(.pointer x35)] w13 fun v10 w14 =>
 ∃ x88 : Int, v10 = (.int .u64 x88) ∧
 (LETI x84 fun next =>
 LETI x86 fun pieces =>
 LETI x88 fun ack =>
 RDL PG (loadVar 58 (Addr.add a5 4)) w14 fun x92 x92N x92C =>
 CALL PG 26 [(.pointer x35), (.int .u64 atv), (.slice x92 x92N x92C)] w14 fun v11 w15 =>
 ∃ x93 : Bool, v11 = (.bool x93) ∧
 (LETB x93 fun b =>
 ∃ R : World → Prop,
 (CALL PG 34 [(.pointer x35)] w15 fun v12 w16 =>
 ∃ x95 : Int, v12 = (.int .u64 x95) ∧
 (IFB (decide (x95 > (0 : Int)))
 (RDL PG (loadVar 58 (Addr.add a5 4)) w16 fun x99 x99N x99C =>
 NEED (0 ≤ (0 : Int) ∧ (0 : Int) ≤ (0 : Int) ∧ (0 : Int) ≤ ((x99C : Nat) : Int))
 (CALL PG 26 [(.pointer x35), (.int .u64 (0 : Int)), (.slice (cutA x99 x99C 1 (0 : Int)) (Int.toNat (0 : Int) - Int.toNat (0 : Int)) (x99C - Int.toNat (0 : Int)))] w16 fun v13 w17 =>
 ∃ x101 : Bool, v13 = (.bool x101) ∧
 (R w17)))
 (R w16))) ∧
 (∀  (w18 : World), R w18 → (∃ S4 : World → Prop, S4 (w18.drew) ∧
 (RDSL PG (loadVar 58 (Addr.add a5 4)) S4 fun x106 x106N x106C =>
 CALL PG 37 [(.pointer x35)] (w18.drew) fun v14 w19 =>
 ∃ x104 : Int, v14 = (.int .u64 x104) ∧
 (∃ S5 : World → Prop, (∀ x, S5 x → S4 x) ∧ S5 w19 ∧
 (CALL PG 26 [(.pointer x35), (.int .u64 x104), (.slice x106 x106N x106C)] w19 fun v15 w20 =>
 ∃ x107 : Bool, v15 = (.bool x107) ∧
 (IFB (a == b)
 (CALL PG 28 [(.pointer x35)] w20 fun v16 w21 =>
 ∃ x117 : Int, v16 = (.int .u64 x117) ∧
 (IFB (x117 == next)
 (CALL PG 35 [(.pointer x35)] w21 fun v17 w22 =>
 ∃ x123 : Int, v17 = (.int .i64 x123) ∧
 (IFB (x123 == pieces)
 (CALL PG 36 [(.pointer x35)] w22 fun v18 w23 =>
 ∃ x129 : Int, v18 = (.int .u64 x129) ∧
 (IFB (x129 == ack)
 (RDI PG (loadVar 3 (Addr.add a9 3)) .i64 w23 fun x135 =>
 IFB (x135 == (4 : Int))
 (CALL PG 31 [] w23 fun v19 w24 =>
 ∃ x139 : Bool, v19 = (.bool x139) ∧
 (LETB x139 fun x6 =>
 Q (.bool x6) w24))
 (LETB false fun x6v1 =>
 Q (.bool x6v1) w23))
 (LETB false fun x6v2 =>
 Q (.bool x6v2) w23)))
 (LETB false fun x6v3 =>
 Q (.bool x6v3) w22)))
 (LETB false fun x6v4 =>
 Q (.bool x6v4) w21)))
 (IFB (!a)
 (CALL PG 28 [(.pointer x35)] w20 fun v20 w25 =>
 ∃ x117v1 : Int, v20 = (.int .u64 x117v1) ∧
 (IFB (x117v1 == next)
 (CALL PG 35 [(.pointer x35)] w25 fun v21 w26 =>
 ∃ x123v1 : Int, v21 = (.int .i64 x123v1) ∧
 (IFB (x123v1 == pieces)
 (CALL PG 36 [(.pointer x35)] w26 fun v22 w27 =>
 ∃ x129v1 : Int, v22 = (.int .u64 x129v1) ∧
 (IFB (x129v1 == ack)
 (RDI PG (loadVar 3 (Addr.add a9 3)) .i64 w27 fun x135v1 =>
 IFB (x135v1 == (4 : Int))
 (CALL PG 31 [] w27 fun v23 w28 =>
 ∃ x139v1 : Bool, v23 = (.bool x139v1) ∧
 (LETB x139v1 fun x6v5 =>
 Q (.bool x6v5) w28))
 (LETB false fun x6v6 =>
 Q (.bool x6v6) w27))
 (LETB false fun x6v7 =>
 Q (.bool x6v7) w27)))
 (LETB false fun x6v8 =>
 Q (.bool x6v8) w26)))
 (LETB false fun x6v9 =>
 Q (.bool x6v9) w25)))
 (LETB false fun x6v10 =>
 Q (.bool x6v10) w20))))))))))))))))))))))))))))))
theorem eq6 : ∀ (sizev : Int) (l : Option Addr) (lN lC : Nat) (o : Int) (o1 : Int) (o2 : Int) (o3 : Bool) (o4 : Option Addr) (oN oC : Nat) (w : World) (Q : Value → World → Prop), vcF PG TB Try.f6 (.s .nil (.s .nil (.s .nil (.s .nil (.s .nil (.s (.s .nil (.u (.loop [(10, 3)] .nil))) (.s .nil (.s .nil (.s .nil (.s .nil (.cut [] .nil .nil))))))))))) [(.int .i64 sizev), (.slice l lN lC), (.agg #[(.int .i64 o), (.int .i64 o1), (.int .u64 o2), (.bool o3), (.slice o4 oN oC)])] w Q = N6 sizev l lN lC o o1 o2 o3 o4 oN oC w Q := by intros; kernel_rfl
theorem call6 {sizev : Int} {l : Option Addr} {lN lC : Nat} {o : Int} {o1 : Int} {o2 : Int} {o3 : Bool} {o4 : Option Addr} {oN oC : Nat} {w : World} {Q : Value → World → Prop} (hN : N6 sizev l lN lC o o1 o2 o3 o4 oN oC w Q) : CALL PG 6 [(.int .i64 sizev), (.slice l lN lC), (.agg #[(.int .i64 o), (.int .i64 o1), (.int .u64 o2), (.bool o3), (.slice o4 oN oC)])] w Q := calls_vc tabOk Try.func6 (by rw [eq6]; exact hN)

/-- brougham/broughamlaw18.one -/
def N33 (x : Option Addr) (r : Int) (r1 : Option Addr) (rN rC : Nat) (r2 : Option Addr) (rN1 rC1 : Nat) (r3 : Int) (r4 : Int) (r5 : Bool) (o : Int) (o1 : Int) (o2 : Int) (o3 : Bool) (o4 : Option Addr) (oN oC : Nat) (w : World) (Q : Value → World → Prop) : Prop :=
 RUNA PG (Instr.box 78 (.agg #[(.int .u64 r), (.slice r1 rN rC), (.slice r2 rN1 rC1), (.int .i64 r3), (.int .u64 r4), (.bool r5)])) w fun a4 w1 =>
 RUNA PG (Instr.box 69 (.agg #[(.int .i64 o), (.int .i64 o1), (.int .u64 o2), (.bool o3), (.slice o4 oN oC)])) w1 fun a5 w2 =>
 RUNA PG (Instr.alloc 78 true (.tuple #[])) w2 fun a6 w3 =>
 RDI PG (loadVar 42 (Addr.add a5 2)) .u64 w3 fun x15 =>
 LETI x15 fun atv =>
 ∃ R : Int → World → Prop,
 (RDB PG (loadVar 4 (Addr.add a5 3)) w3 fun x17 =>
 IFB (!x17)
 (RDI PG (loadVar 42 (Addr.add a4 0)) .u64 w3 fun x20 =>
 RDI PG (loadVar 42 (Addr.add a5 2)) .u64 w3 fun x22 =>
 LETI (IntKind.u64.wrap (x20 + x22)) fun atv1 =>
 R atv1 w3)
 (R atv w3)) ∧
 (∀ (atv2 : Int) (w4 : World), R atv2 w4 → (∃ R1 : World → Prop,
 (RDI PG (loadVar 3 (Addr.add a5 0)) .i64 w4 fun x25 =>
 NEED ((8 : Int) ≠ 0)
 (NEED ((8 : Int) ≠ 0)
 (LETB ((Int.tmod (IntKind.i64.wrap ((Int.tmod x25 (8 : Int)) + (8 : Int))) (8 : Int)) == (5 : Int)) fun x29 =>
 IFB x29
 (RD PG (loadVar 78 a4) w4 fun v =>
 ∃ x32 : Int, ∃ (x32v1 : Option Addr) (x32N x32C : Nat), ∃ (x32v2 : Option Addr) (x32N1 x32C1 : Nat), ∃ x32v3 : Int, ∃ x32v4 : Int, ∃ x32v5 : Bool, v = (.agg #[(.int .u64 x32), (.slice x32v1 x32N x32C), (.slice x32v2 x32N1 x32C1), (.int .i64 x32v3), (.int .u64 x32v4), (.bool x32v5)]) ∧
 (CALL PG 92 [(.agg #[(.int .u64 x32), (.slice x32v1 x32N x32C), (.slice x32v2 x32N1 x32C1), (.int .i64 x32v3), (.int .u64 x32v4), (.bool x32v5)]), (.int .u64 atv2)] w4 fun v1 w5 =>
 ∃ x34 : Int, ∃ (x34v1 : Option Addr) (x34N x34C : Nat), ∃ (x34v2 : Option Addr) (x34N1 x34C1 : Nat), ∃ x34v3 : Int, ∃ x34v4 : Int, ∃ x34v5 : Bool, ∃ x34v6 : Bool, v1 = (.tuple #[(.agg #[(.int .u64 x34), (.slice x34v1 x34N x34C), (.slice x34v2 x34N1 x34C1), (.int .i64 x34v3), (.int .u64 x34v4), (.bool x34v5)]), (.bool x34v6)]) ∧
 (RUNU PG (storeVar 78 a4 (.agg #[(.int .u64 x34), (.slice x34v1 x34N x34C), (.slice x34v2 x34N1 x34C1), (.int .i64 x34v3), (.int .u64 x34v4), (.bool x34v5)])) w5 fun w6 =>
 LETB x34v6 fun okv =>
 ∃ S : World → Prop, S (w6.drew) ∧
 (RDS PG (loadVar 78 a4) S fun v2 =>
 ∃ x37 : Int, ∃ (x37v1 : Option Addr) (x37N x37C : Nat), ∃ (x37v2 : Option Addr) (x37N1 x37C1 : Nat), ∃ x37v3 : Int, ∃ x37v4 : Int, ∃ x37v5 : Bool, v2 = (.agg #[(.int .u64 x37), (.slice x37v1 x37N x37C), (.slice x37v2 x37N1 x37C1), (.int .i64 x37v3), (.int .u64 x37v4), (.bool x37v5)]) ∧
 (CALL PG 29 [(.pointer x), (.int .u64 atv2)] (w6.drew) fun v3 w7 =>
 ∃ x40 : Bool, v3 = (.bool x40) ∧
 (∃ S1 : World → Prop, (∀ x, S1 x → S x) ∧ S1 w7 ∧
 (RUNU PG (storeVar 78 a6 (.agg #[(.int .u64 x37), (.slice x37v1 x37N x37C), (.slice x37v2 x37N1 x37C1), (.int .i64 x37v3), (.int .u64 x37v4), (.bool x37v5)])) w7 fun w8 =>
 ∃ S2 : World → Prop, (∀ x, S2 x → S1 x) ∧ S2 w8 ∧
 (LETB (x40 == okv) fun x7 =>
 RD PG (loadVar 78 a6) w8 fun v5 =>
 ∃ r6 : Int, ∃ (r7 : Option Addr) (rN2 rC2 : Nat), ∃ (r8 : Option Addr) (rN3 rC3 : Nat), ∃ r9 : Int, ∃ r10 : Int, ∃ r11 : Bool, v5 = (.agg #[(.int .u64 r6), (.slice r7 rN2 rC2), (.slice r8 rN3 rC3), (.int .i64 r9), (.int .u64 r10), (.bool r11)]) ∧
 (Q (.tuple #[(.agg #[(.int .u64 r6), (.slice r7 rN2 rC2), (.slice r8 rN3 rC3), (.int .i64 r9), (.int .u64 r10), (.bool r11)]), (.bool x7)]) w8)))))))))
 (∃ R2 : Bool → World → Prop,
 (LETB ((Int.tmod (IntKind.i64.wrap ((Int.tmod x25 (8 : Int)) + (8 : Int))) (8 : Int)) == (6 : Int)) fun x43 =>
 IFB x43
 (R2 true w4)
 (LETB ((Int.tmod (IntKind.i64.wrap ((Int.tmod x25 (8 : Int)) + (8 : Int))) (8 : Int)) == (7 : Int)) fun x43v1 =>
 R2 x43v1 w4)) ∧
 (∀ (x43v2 : Bool) (w9 : World), R2 x43v2 w9 → (IFB x43v2
 (RD PG (loadVar 78 a4) w9 fun v6 =>
 ∃ x47 : Int, ∃ (x47v1 : Option Addr) (x47N x47C : Nat), ∃ (x47v2 : Option Addr) (x47N1 x47C1 : Nat), ∃ x47v3 : Int, ∃ x47v4 : Int, ∃ x47v5 : Bool, v6 = (.agg #[(.int .u64 x47), (.slice x47v1 x47N x47C), (.slice x47v2 x47N1 x47C1), (.int .i64 x47v3), (.int .u64 x47v4), (.bool x47v5)]) ∧
 (RDI PG (loadVar 3 (Addr.add a5 1)) .i64 w9 fun x49 =>
 CALL PG 93 [(.agg #[(.int .u64 x47), (.slice x47v1 x47N x47C), (.slice x47v2 x47N1 x47C1), (.int .i64 x47v3), (.int .u64 x47v4), (.bool x47v5)]), (.int .i64 x49)] w9 fun v7 w10 =>
 ∃ x50 : Int, ∃ (x50v1 : Option Addr) (x50N x50C : Nat), ∃ (x50v2 : Option Addr) (x50N1 x50C1 : Nat), ∃ x50v3 : Int, ∃ x50v4 : Int, ∃ x50v5 : Bool, ∃ (x50v6 : Option Addr) (x50N2 x50C2 : Nat), ∃ x50v7 : Int, v7 = (.tuple #[(.agg #[(.int .u64 x50), (.slice x50v1 x50N x50C), (.slice x50v2 x50N1 x50C1), (.int .i64 x50v3), (.int .u64 x50v4), (.bool x50v5)]), (.slice x50v6 x50N2 x50C2), (.int .i64 x50v7)]) ∧
 (RUNU PG (storeVar 78 a4 (.agg #[(.int .u64 x50), (.slice x50v1 x50N x50C), (.slice x50v2 x50N1 x50C1), (.int .i64 x50v3), (.int .u64 x50v4), (.bool x50v5)])) w10 fun w11 =>
 LETI x50v7 fun e =>
 RDI PG (loadVar 3 (Addr.add a5 1)) .i64 w11 fun x57 =>
 CALL PG 27 [(.pointer x), (.int .i64 x57)] w11 fun v8 w12 =>
 ∃ (x58 : Option Addr) (x58N x58C : Nat), ∃ x58v1 : Int, v8 = (.tuple #[(.slice x58 x58N x58C), (.int .i64 x58v1)]) ∧
 (LETI x58v1 fun f =>
 RD PG (loadVar 78 a4) w12 fun v9 =>
 ∃ x61 : Int, ∃ (x61v1 : Option Addr) (x61N x61C : Nat), ∃ (x61v2 : Option Addr) (x61N1 x61C1 : Nat), ∃ x61v3 : Int, ∃ x61v4 : Int, ∃ x61v5 : Bool, v9 = (.agg #[(.int .u64 x61), (.slice x61v1 x61N x61C), (.slice x61v2 x61N1 x61C1), (.int .i64 x61v3), (.int .u64 x61v4), (.bool x61v5)]) ∧
 (RDT PG (convert 58 9 (.slice x58 x58N x58C)) w12 fun x63 =>
 RDT PG (convert 58 9 (.slice x50v6 x50N2 x50C2)) w12 fun x65 =>
 IFB (x63.toList == x65.toList)
 (RUNU PG (storeVar 78 a6 (.agg #[(.int .u64 x61), (.slice x61v1 x61N x61C), (.slice x61v2 x61N1 x61C1), (.int .i64 x61v3), (.int .u64 x61v4), (.bool x61v5)])) w12 fun w13 =>
 LETB (f == e) fun x7v1 =>
 RD PG (loadVar 78 a6) w13 fun v11 =>
 ∃ r12 : Int, ∃ (r13 : Option Addr) (rN4 rC4 : Nat), ∃ (r14 : Option Addr) (rN5 rC5 : Nat), ∃ r15 : Int, ∃ r16 : Int, ∃ r17 : Bool, v11 = (.agg #[(.int .u64 r12), (.slice r13 rN4 rC4), (.slice r14 rN5 rC5), (.int .i64 r15), (.int .u64 r16), (.bool r17)]) ∧
 (Q (.tuple #[(.agg #[(.int .u64 r12), (.slice r13 rN4 rC4), (.slice r14 rN5 rC5), (.int .i64 r15), (.int .u64 r16), (.bool r17)]), (.bool x7v1)]) w13))
 (RUNU PG (storeVar 78 a6 (.agg #[(.int .u64 x61), (.slice x61v1 x61N x61C), (.slice x61v2 x61N1 x61C1), (.int .i64 x61v3), (.int .u64 x61v4), (.bool x61v5)])) w12 fun w14 =>
 LETB false fun x7v2 =>
 RD PG (loadVar 78 a6) w14 fun v13 =>
 ∃ r18 : Int, ∃ (r19 : Option Addr) (rN6 rC6 : Nat), ∃ (r20 : Option Addr) (rN7 rC7 : Nat), ∃ r21 : Int, ∃ r22 : Int, ∃ r23 : Bool, v13 = (.agg #[(.int .u64 r18), (.slice r19 rN6 rC6), (.slice r20 rN7 rC7), (.int .i64 r21), (.int .u64 r22), (.bool r23)]) ∧
 (Q (.tuple #[(.agg #[(.int .u64 r18), (.slice r19 rN6 rC6), (.slice r20 rN7 rC7), (.int .i64 r21), (.int .u64 r22), (.bool r23)]), (.bool x7v2)]) w14)))))))
 (R1 w9))))))) ∧
 (∀  (w15 : World), R1 w15 → (RD PG (loadVar 78 a4) w15 fun v14 =>
 ∃ x73 : Int, ∃ (x73v1 : Option Addr) (x73N x73C : Nat), ∃ (x73v2 : Option Addr) (x73N1 x73C1 : Nat), ∃ x73v3 : Int, ∃ x73v4 : Int, ∃ x73v5 : Bool, v14 = (.agg #[(.int .u64 x73), (.slice x73v1 x73N x73C), (.slice x73v2 x73N1 x73C1), (.int .i64 x73v3), (.int .u64 x73v4), (.bool x73v5)]) ∧
 (RDL PG (loadVar 58 (Addr.add a5 4)) w15 fun x76 x76N x76C =>
 CALL PG 94 [(.agg #[(.int .u64 x73), (.slice x73v1 x73N x73C), (.slice x73v2 x73N1 x73C1), (.int .i64 x73v3), (.int .u64 x73v4), (.bool x73v5)]), (.int .u64 atv2), (.slice x76 x76N x76C)] w15 fun v15 w16 =>
 ∃ x77 : Int, ∃ (x77v1 : Option Addr) (x77N x77C : Nat), ∃ (x77v2 : Option Addr) (x77N1 x77C1 : Nat), ∃ x77v3 : Int, ∃ x77v4 : Int, ∃ x77v5 : Bool, ∃ x77v6 : Bool, v15 = (.tuple #[(.agg #[(.int .u64 x77), (.slice x77v1 x77N x77C), (.slice x77v2 x77N1 x77C1), (.int .i64 x77v3), (.int .u64 x77v4), (.bool x77v5)]), (.bool x77v6)]) ∧
 (RUNU PG (storeVar 78 a4 (.agg #[(.int .u64 x77), (.slice x77v1 x77N x77C), (.slice x77v2 x77N1 x77C1), (.int .i64 x77v3), (.int .u64 x77v4), (.bool x77v5)])) w16 fun w17 =>
 LETB x77v6 fun okv1 =>
 ∃ S3 : World → Prop, S3 (w17.drew) ∧
 (RDS PG (loadVar 78 a4) S3 fun v16 =>
 ∃ x80 : Int, ∃ (x80v1 : Option Addr) (x80N x80C : Nat), ∃ (x80v2 : Option Addr) (x80N1 x80C1 : Nat), ∃ x80v3 : Int, ∃ x80v4 : Int, ∃ x80v5 : Bool, v16 = (.agg #[(.int .u64 x80), (.slice x80v1 x80N x80C), (.slice x80v2 x80N1 x80C1), (.int .i64 x80v3), (.int .u64 x80v4), (.bool x80v5)]) ∧
 (RDSL PG (loadVar 58 (Addr.add a5 4)) S3 fun x84 x84N x84C =>
 CALL PG 26 [(.pointer x), (.int .u64 atv2), (.slice x84 x84N x84C)] (w17.drew) fun v17 w18 =>
 ∃ x85 : Bool, v17 = (.bool x85) ∧
 (∃ S4 : World → Prop, (∀ x, S4 x → S3 x) ∧ S4 w18 ∧
 (RUNU PG (storeVar 78 a6 (.agg #[(.int .u64 x80), (.slice x80v1 x80N x80C), (.slice x80v2 x80N1 x80C1), (.int .i64 x80v3), (.int .u64 x80v4), (.bool x80v5)])) w18 fun w19 =>
 ∃ S5 : World → Prop, (∀ x, S5 x → S4 x) ∧ S5 w19 ∧
 (LETB (x85 == okv1) fun x7v3 =>
 RD PG (loadVar 78 a6) w19 fun v19 =>
 ∃ r24 : Int, ∃ (r25 : Option Addr) (rN8 rC8 : Nat), ∃ (r26 : Option Addr) (rN9 rC9 : Nat), ∃ r27 : Int, ∃ r28 : Int, ∃ r29 : Bool, v19 = (.agg #[(.int .u64 r24), (.slice r25 rN8 rC8), (.slice r26 rN9 rC9), (.int .i64 r27), (.int .u64 r28), (.bool r29)]) ∧
 (Q (.tuple #[(.agg #[(.int .u64 r24), (.slice r25 rN8 rC8), (.slice r26 rN9 rC9), (.int .i64 r27), (.int .u64 r28), (.bool r29)]), (.bool x7v3)]) w19))))))))))))
theorem eq33 : ∀ (x : Option Addr) (r : Int) (r1 : Option Addr) (rN rC : Nat) (r2 : Option Addr) (rN1 rC1 : Nat) (r3 : Int) (r4 : Int) (r5 : Bool) (o : Int) (o1 : Int) (o2 : Int) (o3 : Bool) (o4 : Option Addr) (oN oC : Nat) (w : World) (Q : Value → World → Prop), vcF PG TB Try.f33 (.s .nil (.s .nil (.cut [(8, 42)] .nil (.s .nil (.cut [] (.s .nil (.u (.s .nil (.c .nil (.cut [(43, 4)] .nil .nil))))) .nil))))) [(.pointer x), (.agg #[(.int .u64 r), (.slice r1 rN rC), (.slice r2 rN1 rC1), (.int .i64 r3), (.int .u64 r4), (.bool r5)]), (.agg #[(.int .i64 o), (.int .i64 o1), (.int .u64 o2), (.bool o3), (.slice o4 oN oC)])] w Q = N33 x r r1 rN rC r2 rN1 rC1 r3 r4 r5 o o1 o2 o3 o4 oN oC w Q := by intros; kernel_rfl
theorem call33 {x : Option Addr} {r : Int} {r1 : Option Addr} {rN rC : Nat} {r2 : Option Addr} {rN1 rC1 : Nat} {r3 : Int} {r4 : Int} {r5 : Bool} {o : Int} {o1 : Int} {o2 : Int} {o3 : Bool} {o4 : Option Addr} {oN oC : Nat} {w : World} {Q : Value → World → Prop} (hN : N33 x r r1 rN rC r2 rN1 rC1 r3 r4 r5 o o1 o2 o3 o4 oN oC w Q) : CALL PG 33 [(.pointer x), (.agg #[(.int .u64 r), (.slice r1 rN rC), (.slice r2 rN1 rC1), (.int .i64 r3), (.int .u64 r4), (.bool r5)]), (.agg #[(.int .i64 o), (.int .i64 o1), (.int .u64 o2), (.bool o3), (.slice o4 oN oC)])] w Q := calls_vc tabOk Try.func33 (by rw [eq33]; exact hN)

/-- (*brougham/inlet.Inlet).Pieces -/
def N35 (x : Option Addr) (w : World) (Q : Value → World → Prop) : Prop :=
 NILC x fun a4 =>
 RDP PG (loadVar 65 (Addr.add a4 1)) w fun x6 =>
 CALL PG 91 [(.pointer x6)] w fun v w1 =>
 ∃ (x7 : Option Addr) (x7N x7C : Nat), v = (.slice x7 x7N x7C) ∧
 (LETI (x7N : Int) fun x2 =>
 Q (.int .i64 x2) w1)
theorem eq35 : ∀ (x : Option Addr) (w : World) (Q : Value → World → Prop), vcF PG TB Try.f35 .nil [(.pointer x)] w Q = N35 x w Q := by intros; kernel_rfl
theorem call35 {x : Option Addr} {w : World} {Q : Value → World → Prop} (hN : N35 x w Q) : CALL PG 35 [(.pointer x)] w Q := calls_vc tabOk Try.func35 (by rw [eq35]; exact hN)

/-- (*brougham/inlet.Inlet).Ack -/
def N36 (x : Option Addr) (w : World) (Q : Value → World → Prop) : Prop :=
 CALL PG 28 [(.pointer x)] w fun v w1 =>
 ∃ x5 : Int, v = (.int .u64 x5) ∧
 (LETI x5 fun n =>
 NILC x fun a7 =>
 RDB PG (loadVar 4 (Addr.add a7 4)) w1 fun x9 =>
 IFB x9
 (NILC x fun a13 =>
 RDI PG (loadVar 42 (Addr.add a13 3)) .u64 w1 fun x15 =>
 IFB (n == x15)
 (LETI (IntKind.u64.wrap (n + (1 : Int))) fun n1 =>
 LETI n1 fun x2 =>
 Q (.int .u64 x2) w1)
 (LETI n fun x2v1 =>
 Q (.int .u64 x2v1) w1))
 (LETI n fun x2v2 =>
 Q (.int .u64 x2v2) w1))
theorem eq36 : ∀ (x : Option Addr) (w : World) (Q : Value → World → Prop), vcF PG TB Try.f36 .nil [(.pointer x)] w Q = N36 x w Q := by intros; kernel_rfl
theorem call36 {x : Option Addr} {w : World} {Q : Value → World → Prop} (hN : N36 x w Q) : CALL PG 36 [(.pointer x)] w Q := calls_vc tabOk Try.func36 (by rw [eq36]; exact hN)

end Go.Br
