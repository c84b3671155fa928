/- What the code of some functions says, as the core reads it; each reading is checked by the kernel. -/
import Derived.Test.YtegocoicdcpgaaaBrSeat
set_option linter.unusedVariables false
set_option maxRecDepth 100000
namespace Go.Br
open Go Go.Proofs

/-- brougham/broughamlaw17.OutletPlays -/
def N11 (sizev : Int) (base : Int) (l : Option Addr) (lN lC : Nat) (w : World) (Q : Value → World → Prop) : Prop :=
 CALL PG 56 [(.slice l lN lC)] w fun v w1 =>
 ∃ x14 : Bool, v = (.bool x14) ∧
 (IFB x14
 (Q (.bool true) w1)
 (CALL PG 57 [(.int .i64 sizev), (.int .u64 base)] w1 fun v1 w2 =>
 ∃ x18 : Option Addr, ∃ x18v1 : Int, v1 = (.tuple #[(.pointer x18), (.int .i64 x18v1)]) ∧
 (LETI x18v1 fun e =>
 CALL PG 58 [(.int .i64 sizev), (.int .u64 base)] w2 fun v2 w3 =>
 ∃ (x24 : Option Addr) (x24N x24C : Nat), ∃ x24v1 : Int, ∃ x24v2 : Int, ∃ x24v3 : Bool, ∃ x24v4 : Bool, ∃ x24v5 : Int, v2 = (.tuple #[(.agg #[(.slice x24 x24N x24C), (.int .u64 x24v1), (.int .i64 x24v2), (.bool x24v3), (.bool x24v4)]), (.int .i64 x24v5)]) ∧
 (RUNA PG (Instr.alloc 93 true (.tuple #[])) w3 fun a9 w4 =>
 RUNU PG (storeVar 93 a9 (.agg #[(.slice x24 x24N x24C), (.int .u64 x24v1), (.int .i64 x24v2), (.bool x24v3), (.bool x24v4)])) w4 fun w5 =>
 LETI x24v5 fun f =>
 IFB (e != f)
 (Q (.bool false) w5)
 (IFB (!((x18.isNone) == (f != (0 : Int))))
 (Q (.bool false) w5)
 (∃ I : Nat → Int → World → Prop,
 (∃ m, I m (0 : Int) w5) ∧
 (∀ m1 (i : Int) (w6 : World), I m1 i w6 → (IFB (decide (i < (lN : Int)))
 (IFB (f == (0 : Int))
 (RD PG (loadVar 93 a9) (w6.drew) fun v3 =>
 ∃ (x49 : Option Addr) (x49N x49C : Nat), ∃ x49v1 : Int, ∃ x49v2 : Int, ∃ x49v3 : Bool, ∃ x49v4 : Bool, v3 = (.agg #[(.slice x49 x49N x49C), (.int .u64 x49v1), (.int .i64 x49v2), (.bool x49v3), (.bool x49v4)]) ∧
 (IDX l lN i fun a52 =>
 RD PG (loadVar 99 (Addr.add a52 (Int.toNat i * 4))) (w6.drew) fun v4 =>
 ∃ x53 : Int, ∃ x53v1 : Int, ∃ x53v2 : Int, ∃ (x53v3 : Option Addr) (x53N x53C : Nat), v4 = (.agg #[(.int .i64 x53), (.int .i64 x53v1), (.int .u64 x53v2), (.slice x53v3 x53N x53C)]) ∧
 (CALL PG 59 [(.pointer x18), (.agg #[(.slice x49 x49N x49C), (.int .u64 x49v1), (.int .i64 x49v2), (.bool x49v3), (.bool x49v4)]), (.agg #[(.int .i64 x53), (.int .i64 x53v1), (.int .u64 x53v2), (.slice x53v3 x53N x53C)])] (w6.drew) fun v5 w7 =>
 ∃ (x54 : Option Addr) (x54N x54C : Nat), ∃ x54v1 : Int, ∃ x54v2 : Int, ∃ x54v3 : Bool, ∃ x54v4 : Bool, ∃ x54v5 : Bool, v5 = (.tuple #[(.agg #[(.slice x54 x54N x54C), (.int .u64 x54v1), (.int .i64 x54v2), (.bool x54v3), (.bool x54v4)]), (.bool x54v5)]) ∧
 (∃ S : World → Prop, S w7 ∧
 (RUNU PG (storeVar 93 a9 (.agg #[(.slice x54 x54N x54C), (.int .u64 x54v1), (.int .i64 x54v2), (.bool x54v3), (.bool x54v4)])) w7 fun w8 =>
 ∃ S1 : World → Prop, (∀ x, S1 x → S x) ∧ S1 w8 ∧
 (LETB x54v5 fun okv =>
 ∃ S2 : World → Prop, S2 (w8.drew) ∧
 (IFB (!okv)
 (∃ S3 : World → Prop, S3 (w8.drew) ∧
 (∃ S4 : World → Prop, S4 (w8.drew) ∧
 (Q (.bool false) (w8.drew))))
 (RDSI PG (loadVar 40 (Addr.add a9 1)) .u64 S2 fun x63 =>
 CALL PG 43 [(.pointer x18)] (w8.drew) fun v6 w9 =>
 ∃ x61 : Int, v6 = (.int .u64 x61) ∧
 (∃ S5 : World → Prop, (∀ x, S5 x → S2 x) ∧ S5 w9 ∧
 (IFB (x61 != x63)
 (∃ S6 : World → Prop, S6 w9 ∧
 (∃ S7 : World → Prop, S7 w9 ∧
 (Q (.bool false) w9)))
 (RDS PG (loadVar 93 a9) S5 fun v7 =>
 ∃ (x69 : Option Addr) (x69N x69C : Nat), ∃ x69v1 : Int, ∃ x69v2 : Int, ∃ x69v3 : Bool, ∃ x69v4 : Bool, v7 = (.agg #[(.slice x69 x69N x69C), (.int .u64 x69v1), (.int .i64 x69v2), (.bool x69v3), (.bool x69v4)]) ∧
 (CALL PG 45 [(.pointer x18)] w9 fun v8 w10 =>
 ∃ x68 : Int, v8 = (.int .u64 x68) ∧
 (∃ S8 : World → Prop, (∀ x, S8 x → S5 x) ∧ S8 w10 ∧
 (CALL PG 60 [(.agg #[(.slice x69 x69N x69C), (.int .u64 x69v1), (.int .i64 x69v2), (.bool x69v3), (.bool x69v4)])] w10 fun v9 w11 =>
 ∃ x70 : Int, v9 = (.int .u64 x70) ∧
 (∃ S9 : World → Prop, S9 w11 ∧
 (IFB (x68 != x70)
 (∃ S10 : World → Prop, S10 w11 ∧
 (Q (.bool false) w11))
 (RDS PG (loadVar 93 a9) S9 fun v10 =>
 ∃ (x76 : Option Addr) (x76N x76C : Nat), ∃ x76v1 : Int, ∃ x76v2 : Int, ∃ x76v3 : Bool, ∃ x76v4 : Bool, v10 = (.agg #[(.slice x76 x76N x76C), (.int .u64 x76v1), (.int .i64 x76v2), (.bool x76v3), (.bool x76v4)]) ∧
 (CALL PG 48 [(.pointer x18)] w11 fun v11 w12 =>
 ∃ x75 : Int, v11 = (.int .u64 x75) ∧
 (∃ S11 : World → Prop, (∀ x, S11 x → S9 x) ∧ S11 w12 ∧
 (CALL PG 61 [(.agg #[(.slice x76 x76N x76C), (.int .u64 x76v1), (.int .i64 x76v2), (.bool x76v3), (.bool x76v4)])] w12 fun v12 w13 =>
 ∃ x77 : Int, v12 = (.int .u64 x77) ∧
 (∃ S12 : World → Prop, S12 w13 ∧
 (IFB (x75 != x77)
 (Q (.bool false) w13)
 (RDSB PG (loadVar 4 (Addr.add a9 4)) S12 fun x84 =>
 CALL PG 49 [(.pointer x18)] w13 fun v13 w14 =>
 ∃ x82 : Bool, v13 = (.bool x82) ∧
 (∃ S13 : World → Prop, (∀ x, S13 x → S12 x) ∧ S13 w14 ∧
 (IFB (!(x82 == x84))
 (Q (.bool false) w14)
 (RDSB PG (loadVar 4 (Addr.add a9 3)) S13 fun x91 =>
 CALL PG 62 [(.pointer x18)] w14 fun v14 w15 =>
 ∃ x89 : Bool, v14 = (.bool x89) ∧
 (∃ S14 : World → Prop, (∀ x, S14 x → S13 x) ∧ S14 w15 ∧
 (IFB (!(x89 == x91))
 (Q (.bool false) w15)
 (NILC x18 fun a96 =>
 RDSP PG (loadVar 24 (Addr.add a96 0)) S14 fun x98 =>
 RDSL PG (loadVar 28 (Addr.add a9 0)) S14 fun x101 x101N x101C =>
 CALL PG 19 [(.pointer x98)] w15 fun v15 w16 =>
 ∃ x99 : Int, v15 = (.int .i64 x99) ∧
 (∃ S15 : World → Prop, (∀ x, S15 x → S14 x) ∧ S15 w16 ∧
 (IFB (x99 != (x101N : Int))
 (Q (.bool false) w16)
 (NILC x18 fun a107 =>
 RDSP PG (loadVar 24 (Addr.add a107 0)) S15 fun x109 =>
 RDSL PG (loadVar 28 (Addr.add a9 0)) S15 fun x113 x113N x113C =>
 CALL PG 17 [(.pointer x109)] w16 fun v16 w17 =>
 ∃ x110 : Int, v16 = (.int .i64 x110) ∧
 (∃ S16 : World → Prop, (∀ x, S16 x → S15 x) ∧ S16 w17 ∧
 (IFB (x110 != (IntKind.i64.wrap (sizev - (x113N : Int))))
 (Q (.bool false) w17)
 (LETI (IntKind.i64.wrap (i + (1 : Int))) fun i1 =>
 ∃ m2, m2 < m1 ∧ I m2 i1 w17)))))))))))))))))))))))))))))))))))
 (CALL PG 46 [] w6 fun v17 w18 =>
 ∃ x118 : Bool, v17 = (.bool x118) ∧
 (LETB x118 fun x6 =>
 Q (.bool x6) w18)))
 (CALL PG 46 [] w6 fun v18 w19 =>
 ∃ x118v1 : Bool, v18 = (.bool x118v1) ∧
 (LETB x118v1 fun x6v1 =>
 Q (.bool x6v1) w19))))))))))
theorem eq11 : ∀ (sizev : Int) (base : Int) (l : Option Addr) (lN lC : Nat) (w : World) (Q : Value → World → Prop), vcF PG TB Try.f11 (.s .nil (.s .nil (.s .nil (.s .nil (.s .nil (.s (.s .nil (.u (.loop [(11, 3)] .nil))) .nil)))))) [(.int .i64 sizev), (.int .u64 base), (.slice l lN lC)] w Q = N11 sizev base l lN lC w Q := by intros; kernel_rfl
theorem call11 {sizev : Int} {base : Int} {l : Option Addr} {lN lC : Nat} {w : World} {Q : Value → World → Prop} (hN : N11 sizev base l lN lC w Q) : CALL PG 11 [(.int .i64 sizev), (.int .u64 base), (.slice l lN lC)] w Q := calls_vc tabOk Try.func11 (by rw [eq11]; exact hN)

/-- brougham/broughamlaw17.great -/
def N56 (l : Option Addr) (lN lC : Nat) (w : World) (Q : Value → World → Prop) : Prop :=
 IFB (decide ((lN : Int) > (60 : Int)))
 (Q (.bool true) w)
 (∃ I : Nat → Int → World → Prop,
 (∃ m, I m (0 : Int) w) ∧
 (∀ m1 (i : Int) (w1 : World), I m1 i w1 → (IFB (decide (i < (lN : Int)))
 (IDX l lN i fun a15 =>
 RDL PG (loadVar 28 (Addr.add (Addr.add a15 (Int.toNat i * 4)) 3)) w1 fun x17 x17N x17C =>
 IFB (decide ((x17N : Int) > (300 : Int)))
 (Q (.bool true) w1)
 (LETI (IntKind.i64.wrap (i + (1 : Int))) fun i1 =>
 ∃ m2, m2 < m1 ∧ I m2 i1 w1))
 (Q (.bool false) w1))))
theorem eq56 : ∀ (l : Option Addr) (lN lC : Nat) (w : World) (Q : Value → World → Prop), vcF PG TB Try.f56 (.s .nil (.s .nil (.s (.s .nil (.u (.loop [(3, 3)] .nil))) .nil))) [(.slice l lN lC)] w Q = N56 l lN lC w Q := by intros; kernel_rfl
theorem call56 {l : Option Addr} {lN lC : Nat} {w : World} {Q : Value → World → Prop} (hN : N56 l lN lC w Q) : CALL PG 56 [(.slice l lN lC)] w Q := calls_vc tabOk Try.func56 (by rw [eq56]; exact hN)

/-- brougham/outlet.At -/
def N57 (sizev : Int) (base : Int) (w : World) (Q : Value → World → Prop) : Prop :=
 IFB (decide (base > (4611686018427387904 : Int)))
 (Q (.tuple #[(.pointer none), (.int .i64 (215 : Int))]) w)
 (CALL PG 40 [(.int .i64 sizev)] w fun v w1 =>
 ∃ x12 : Option Addr, ∃ x12v1 : Int, v = (.tuple #[(.pointer x12), (.int .i64 x12v1)]) ∧
 (LETI x12v1 fun e =>
 IFB (e != (0 : Int))
 (LETI e fun x5 =>
 Q (.tuple #[(.pointer none), (.int .i64 x5)]) w1)
 (NILC x12 fun a20 =>
 RUNU PG (storeVar 40 (Addr.add a20 1) (.int .u64 base)) w1 fun w2 =>
 Q (.tuple #[(.pointer x12), (.int .i64 (0 : Int))]) w2)))
theorem eq57 : ∀ (sizev : Int) (base : Int) (w : World) (Q : Value → World → Prop), vcF PG TB Try.f57 .nil [(.int .i64 sizev), (.int .u64 base)] w Q = N57 sizev base w Q := by intros; kernel_rfl
theorem call57 {sizev : Int} {base : Int} {w : World} {Q : Value → World → Prop} (hN : N57 sizev base w Q) : CALL PG 57 [(.int .i64 sizev), (.int .u64 base)] w Q := calls_vc tabOk Try.func57 (by rw [eq57]; exact hN)

/-- brougham/broughamlaw17.one -/
def N59 (o : Option Addr) (x : Option Addr) (xN xC : Nat) (x1 : Int) (x2 : Int) (x3 : Bool) (x4 : Bool) (p : Int) (p1 : Int) (p2 : Int) (p3 : Option Addr) (pN pC : Nat) (w : World) (Q : Value → World → Prop) : Prop :=
 RUNA PG (Instr.box 93 (.agg #[(.slice x xN xC), (.int .u64 x1), (.int .i64 x2), (.bool x3), (.bool x4)])) w fun a4 w1 =>
 RUNA PG (Instr.box 99 (.agg #[(.int .i64 p), (.int .i64 p1), (.int .u64 p2), (.slice p3 pN pC)])) w1 fun a5 w2 =>
 RUNA PG (Instr.alloc 93 true (.tuple #[])) w2 fun a6 w3 =>
 RDI PG (loadVar 40 (Addr.add a5 2)) .u64 w3 fun x15 =>
 LETI x15 fun tov =>
 ∃ R : Int → World → Prop,
 (RDI PG (loadVar 3 (Addr.add a5 0)) .i64 w3 fun x17 =>
 NEED ((2 : Int) ≠ 0)
 (IFB ((Int.tmod x17 (2 : Int)) == (0 : Int))
 (RDI PG (loadVar 40 (Addr.add a4 1)) .u64 w3 fun x21 =>
 RDI PG (loadVar 40 (Addr.add a5 2)) .u64 w3 fun x23 =>
 LETI (IntKind.u64.wrap (x21 + x23)) fun tov1 =>
 R tov1 w3)
 (R tov w3))) ∧
 (∀ (tov2 : Int) (w4 : World), R tov2 w4 → (∃ R1 : World → Prop,
 (RDI PG (loadVar 3 (Addr.add a5 0)) .i64 w4 fun x26 =>
 NEED ((7 : Int) ≠ 0)
 (NEED ((7 : Int) ≠ 0)
 (∃ R2 : Bool → World → Prop,
 (LETB ((Int.tmod (IntKind.i64.wrap ((Int.tmod x26 (7 : Int)) + (7 : Int))) (7 : Int)) == (3 : Int)) fun x30 =>
 IFB x30
 (R2 true w4)
 (LETB ((Int.tmod (IntKind.i64.wrap ((Int.tmod x26 (7 : Int)) + (7 : Int))) (7 : Int)) == (4 : Int)) fun x30v1 =>
 R2 x30v1 w4)) ∧
 (∀ (x30v2 : Bool) (w5 : World), R2 x30v2 w5 → (IFB x30v2
 (RD PG (loadVar 93 a4) w5 fun v =>
 ∃ (x34 : Option Addr) (x34N x34C : Nat), ∃ x34v1 : Int, ∃ x34v2 : Int, ∃ x34v3 : Bool, ∃ x34v4 : Bool, v = (.agg #[(.slice x34 x34N x34C), (.int .u64 x34v1), (.int .i64 x34v2), (.bool x34v3), (.bool x34v4)]) ∧
 (CALL PG 107 [(.agg #[(.slice x34 x34N x34C), (.int .u64 x34v1), (.int .i64 x34v2), (.bool x34v3), (.bool x34v4)]), (.int .u64 tov2)] w5 fun v1 w6 =>
 ∃ (x36 : Option Addr) (x36N x36C : Nat), ∃ x36v1 : Int, ∃ x36v2 : Int, ∃ x36v3 : Bool, ∃ x36v4 : Bool, ∃ x36v5 : Bool, v1 = (.tuple #[(.agg #[(.slice x36 x36N x36C), (.int .u64 x36v1), (.int .i64 x36v2), (.bool x36v3), (.bool x36v4)]), (.bool x36v5)]) ∧
 (RUNU PG (storeVar 93 a4 (.agg #[(.slice x36 x36N x36C), (.int .u64 x36v1), (.int .i64 x36v2), (.bool x36v3), (.bool x36v4)])) w6 fun w7 =>
 LETB x36v5 fun okv =>
 ∃ S : World → Prop, S (w7.drew) ∧
 (RDS PG (loadVar 93 a4) S fun v2 =>
 ∃ (x39 : Option Addr) (x39N x39C : Nat), ∃ x39v1 : Int, ∃ x39v2 : Int, ∃ x39v3 : Bool, ∃ x39v4 : Bool, v2 = (.agg #[(.slice x39 x39N x39C), (.int .u64 x39v1), (.int .i64 x39v2), (.bool x39v3), (.bool x39v4)]) ∧
 (CALL PG 44 [(.pointer o), (.int .u64 tov2)] (w7.drew) fun v3 w8 =>
 ∃ x42 : Bool, v3 = (.bool x42) ∧
 (∃ S1 : World → Prop, (∀ x, S1 x → S x) ∧ S1 w8 ∧
 (RUNU PG (storeVar 93 a6 (.agg #[(.slice x39 x39N x39C), (.int .u64 x39v1), (.int .i64 x39v2), (.bool x39v3), (.bool x39v4)])) w8 fun w9 =>
 ∃ S2 : World → Prop, (∀ x, S2 x → S1 x) ∧ S2 w9 ∧
 (LETB (x42 == okv) fun x7 =>
 RD PG (loadVar 93 a6) w9 fun v5 =>
 ∃ (r : Option Addr) (rN rC : Nat), ∃ r1 : Int, ∃ r2 : Int, ∃ r3 : Bool, ∃ r4 : Bool, v5 = (.agg #[(.slice r rN rC), (.int .u64 r1), (.int .i64 r2), (.bool r3), (.bool r4)]) ∧
 (Q (.tuple #[(.agg #[(.slice r rN rC), (.int .u64 r1), (.int .i64 r2), (.bool r3), (.bool r4)]), (.bool x7)]) w9)))))))))
 (LETB ((Int.tmod (IntKind.i64.wrap ((Int.tmod x26 (7 : Int)) + (7 : Int))) (7 : Int)) == (5 : Int)) fun x45 =>
 IFB x45
 (CALL PG 47 [(.pointer o)] w5 fun v6 w10 =>
 v6 = (.tuple #[]) ∧
 (RUNU PG (storeVar 4 (Addr.add a4 3) (.bool true)) w10 fun w11 =>
 RD PG (loadVar 93 a4) w11 fun v7 =>
 ∃ (x50 : Option Addr) (x50N x50C : Nat), ∃ x50v1 : Int, ∃ x50v2 : Int, ∃ x50v3 : Bool, ∃ x50v4 : Bool, v7 = (.agg #[(.slice x50 x50N x50C), (.int .u64 x50v1), (.int .i64 x50v2), (.bool x50v3), (.bool x50v4)]) ∧
 (RUNU PG (storeVar 93 a6 (.agg #[(.slice x50 x50N x50C), (.int .u64 x50v1), (.int .i64 x50v2), (.bool x50v3), (.bool x50v4)])) w11 fun w12 =>
 RD PG (loadVar 93 a6) w12 fun v9 =>
 ∃ (r5 : Option Addr) (rN1 rC1 : Nat), ∃ r6 : Int, ∃ r7 : Int, ∃ r8 : Bool, ∃ r9 : Bool, v9 = (.agg #[(.slice r5 rN1 rC1), (.int .u64 r6), (.int .i64 r7), (.bool r8), (.bool r9)]) ∧
 (Q (.tuple #[(.agg #[(.slice r5 rN1 rC1), (.int .u64 r6), (.int .i64 r7), (.bool r8), (.bool r9)]), (.bool true)]) w12))))
 (LETB ((Int.tmod (IntKind.i64.wrap ((Int.tmod x26 (7 : Int)) + (7 : Int))) (7 : Int)) == (6 : Int)) fun x51 =>
 IFB x51
 (∃ S3 : World → Prop, S3 (w5.drew) ∧
 (RDS PG (loadVar 93 a4) S3 fun v10 =>
 ∃ (x53 : Option Addr) (x53N x53C : Nat), ∃ x53v1 : Int, ∃ x53v2 : Int, ∃ x53v3 : Bool, ∃ x53v4 : Bool, v10 = (.agg #[(.slice x53 x53N x53C), (.int .u64 x53v1), (.int .i64 x53v2), (.bool x53v3), (.bool x53v4)]) ∧
 (RDSI PG (loadVar 3 (Addr.add a5 1)) .i64 S3 fun x57 =>
 RDS PG (loadVar 93 a4) S3 fun v11 =>
 ∃ (x60 : Option Addr) (x60N x60C : Nat), ∃ x60v1 : Int, ∃ x60v2 : Int, ∃ x60v3 : Bool, ∃ x60v4 : Bool, v11 = (.agg #[(.slice x60 x60N x60C), (.int .u64 x60v1), (.int .i64 x60v2), (.bool x60v3), (.bool x60v4)]) ∧
 (RDSI PG (loadVar 3 (Addr.add a5 1)) .i64 S3 fun x63 =>
 CALL PG 42 [(.pointer o), (.int .u64 tov2), (.int .i64 x57)] (w5.drew) fun v12 w13 =>
 ∃ (x58 : Option Addr) (x58N x58C : Nat), v12 = (.slice x58 x58N x58C) ∧
 (∃ S4 : World → Prop, (∀ x, S4 x → S3 x) ∧ S4 w13 ∧
 (RDST PG (convert 28 9 (.slice x58 x58N x58C)) S4 fun x59 =>
 CALL PG 108 [(.agg #[(.slice x60 x60N x60C), (.int .u64 x60v1), (.int .i64 x60v2), (.bool x60v3), (.bool x60v4)]), (.int .u64 tov2), (.int .i64 x63)] w13 fun v13 w14 =>
 ∃ (x64 : Option Addr) (x64N x64C : Nat), v13 = (.slice x64 x64N x64C) ∧
 (∃ S5 : World → Prop, (∀ x, S5 x → S4 x) ∧ S5 w14 ∧
 (RDST PG (convert 28 9 (.slice x64 x64N x64C)) S5 fun x65 =>
 RUNU PG (storeVar 93 a6 (.agg #[(.slice x53 x53N x53C), (.int .u64 x53v1), (.int .i64 x53v2), (.bool x53v3), (.bool x53v4)])) w14 fun w15 =>
 ∃ S6 : World → Prop, (∀ x, S6 x → S5 x) ∧ S6 w15 ∧
 (LETB (x59.toList == x65.toList) fun x7v1 =>
 RD PG (loadVar 93 a6) w15 fun v15 =>
 ∃ (r10 : Option Addr) (rN2 rC2 : Nat), ∃ r11 : Int, ∃ r12 : Int, ∃ r13 : Bool, ∃ r14 : Bool, v15 = (.agg #[(.slice r10 rN2 rC2), (.int .u64 r11), (.int .i64 r12), (.bool r13), (.bool r14)]) ∧
 (Q (.tuple #[(.agg #[(.slice r10 rN2 rC2), (.int .u64 r11), (.int .i64 r12), (.bool r13), (.bool r14)]), (.bool x7v1)]) w15))))))))))
 (R1 w5)))))))) ∧
 (∀  (w16 : World), R1 w16 → (RD PG (loadVar 93 a4) w16 fun v16 =>
 ∃ (x68 : Option Addr) (x68N x68C : Nat), ∃ x68v1 : Int, ∃ x68v2 : Int, ∃ x68v3 : Bool, ∃ x68v4 : Bool, v16 = (.agg #[(.slice x68 x68N x68C), (.int .u64 x68v1), (.int .i64 x68v2), (.bool x68v3), (.bool x68v4)]) ∧
 (RDL PG (loadVar 28 (Addr.add a5 3)) w16 fun x70 x70N x70C =>
 CALL PG 109 [(.agg #[(.slice x68 x68N x68C), (.int .u64 x68v1), (.int .i64 x68v2), (.bool x68v3), (.bool x68v4)]), (.slice x70 x70N x70C)] w16 fun v17 w17 =>
 ∃ (x71 : Option Addr) (x71N x71C : Nat), ∃ x71v1 : Int, ∃ x71v2 : Int, ∃ x71v3 : Bool, ∃ x71v4 : Bool, ∃ x71v5 : Int, ∃ x71v6 : Int, v17 = (.tuple #[(.agg #[(.slice x71 x71N x71C), (.int .u64 x71v1), (.int .i64 x71v2), (.bool x71v3), (.bool x71v4)]), (.int .i64 x71v5), (.int .i64 x71v6)]) ∧
 (RUNU PG (storeVar 93 a4 (.agg #[(.slice x71 x71N x71C), (.int .u64 x71v1), (.int .i64 x71v2), (.bool x71v3), (.bool x71v4)])) w17 fun w18 =>
 LETI x71v5 fun n =>
 LETI x71v6 fun e =>
 RDL PG (loadVar 28 (Addr.add a5 3)) w18 fun x78 x78N x78C =>
 CALL PG 41 [(.pointer o), (.slice x78 x78N x78C)] w18 fun v18 w19 =>
 ∃ x79 : Int, ∃ x79v1 : Int, v18 = (.tuple #[(.int .i64 x79), (.int .i64 x79v1)]) ∧
 (LETI x79 fun a =>
 LETI x79v1 fun f =>
 RD PG (loadVar 93 a4) w19 fun v19 =>
 ∃ (x82 : Option Addr) (x82N x82C : Nat), ∃ x82v1 : Int, ∃ x82v2 : Int, ∃ x82v3 : Bool, ∃ x82v4 : Bool, v19 = (.agg #[(.slice x82 x82N x82C), (.int .u64 x82v1), (.int .i64 x82v2), (.bool x82v3), (.bool x82v4)]) ∧
 (IFB (a == n)
 (RUNU PG (storeVar 93 a6 (.agg #[(.slice x82 x82N x82C), (.int .u64 x82v1), (.int .i64 x82v2), (.bool x82v3), (.bool x82v4)])) w19 fun w20 =>
 LETB (f == e) fun x7v2 =>
 RD PG (loadVar 93 a6) w20 fun v21 =>
 ∃ (r15 : Option Addr) (rN3 rC3 : Nat), ∃ r16 : Int, ∃ r17 : Int, ∃ r18 : Bool, ∃ r19 : Bool, v21 = (.agg #[(.slice r15 rN3 rC3), (.int .u64 r16), (.int .i64 r17), (.bool r18), (.bool r19)]) ∧
 (Q (.tuple #[(.agg #[(.slice r15 rN3 rC3), (.int .u64 r16), (.int .i64 r17), (.bool r18), (.bool r19)]), (.bool x7v2)]) w20))
 (RUNU PG (storeVar 93 a6 (.agg #[(.slice x82 x82N x82C), (.int .u64 x82v1), (.int .i64 x82v2), (.bool x82v3), (.bool x82v4)])) w19 fun w21 =>
 LETB false fun x7v3 =>
 RD PG (loadVar 93 a6) w21 fun v23 =>
 ∃ (r20 : Option Addr) (rN4 rC4 : Nat), ∃ r21 : Int, ∃ r22 : Int, ∃ r23 : Bool, ∃ r24 : Bool, v23 = (.agg #[(.slice r20 rN4 rC4), (.int .u64 r21), (.int .i64 r22), (.bool r23), (.bool r24)]) ∧
 (Q (.tuple #[(.agg #[(.slice r20 rN4 rC4), (.int .u64 r21), (.int .i64 r22), (.bool r23), (.bool r24)]), (.bool x7v3)]) w21))))))))))
theorem eq59 : ∀ (o : Option Addr) (x : Option Addr) (xN xC : Nat) (x1 : Int) (x2 : Int) (x3 : Bool) (x4 : Bool) (p : Int) (p1 : Int) (p2 : Int) (p3 : Option Addr) (pN pC : Nat) (w : World) (Q : Value → World → Prop), vcF PG TB Try.f59 (.s .nil (.s .nil (.s .nil (.cut [(11, 40)] .nil (.cut [] (.s .nil (.u (.cut [(30, 4)] .nil .nil))) .nil))))) [(.pointer o), (.agg #[(.slice x xN xC), (.int .u64 x1), (.int .i64 x2), (.bool x3), (.bool x4)]), (.agg #[(.int .i64 p), (.int .i64 p1), (.int .u64 p2), (.slice p3 pN pC)])] w Q = N59 o x xN xC x1 x2 x3 x4 p p1 p2 p3 pN pC w Q := by intros; kernel_rfl
theorem call59 {o : Option Addr} {x : Option Addr} {xN xC : Nat} {x1 : Int} {x2 : Int} {x3 : Bool} {x4 : Bool} {p : Int} {p1 : Int} {p2 : Int} {p3 : Option Addr} {pN pC : Nat} {w : World} {Q : Value → World → Prop} (hN : N59 o x xN xC x1 x2 x3 x4 p p1 p2 p3 pN pC w Q) : CALL PG 59 [(.pointer o), (.agg #[(.slice x xN xC), (.int .u64 x1), (.int .i64 x2), (.bool x3), (.bool x4)]), (.agg #[(.int .i64 p), (.int .i64 p1), (.int .u64 p2), (.slice p3 pN pC)])] w Q := calls_vc tabOk Try.func59 (by rw [eq59]; exact hN)

end Go.Br
