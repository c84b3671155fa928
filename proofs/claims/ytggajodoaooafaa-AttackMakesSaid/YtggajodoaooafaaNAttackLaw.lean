/- What the code of some functions says, as the core reads it; each reading is checked by the kernel. -/
import Derived.Test.YtggajodoaooafaaBrSeat
set_option linter.unusedVariables false
set_option maxRecDepth 100000
namespace Go.Br
open Go Go.Proofs

/-- brougham/broughamlaw33.AttackMakes -/
def N4 (x : Int) (x1 : Int) (x2 : Int) (x3 : Int) (x4 : Int) (x5 : Int) (x6 : Int) (data : Option Addr) (dataN dataC : Nat) (w : World) (Q : Value → World → Prop) : Prop :=
 RUNA PG (Instr.box 49 (.agg #[(.int .i64 x), (.int .u16 x1), (.int .u16 x2), (.int .u32 x3), (.int .u32 x4), (.int .u32 x5), (.int .i64 x6)])) w fun a2 w1 =>
 IFB (decide ((dataN : Int) > (2000 : Int)))
 (Q (.bool true) w1)
 (RDI PG (loadVar 45 (Addr.add a2 0)) .i64 w1 fun x14 =>
 RD PG (loadVar 47 (Addr.add a2 1)) w1 fun v =>
 ∃ x16 : Int, ∃ x16v1 : Int, v = (.agg #[(.int .u16 x16), (.int .u16 x16v1)]) ∧
 (RDI PG (loadVar 26 (Addr.add a2 3)) .u32 w1 fun x18 =>
 RDI PG (loadVar 26 (Addr.add a2 4)) .u32 w1 fun x20 =>
 CALL PG 21 [(.int .i64 x14), (.agg #[(.int .u16 x16), (.int .u16 x16v1)]), (.int .u32 x18), (.int .u32 x20), (.slice data dataN dataC)] w1 fun v1 w2 =>
 ∃ x22 : Int, ∃ x22v1 : Int, ∃ x22v2 : Int, ∃ x22v3 : Int, ∃ x22v4 : Int, ∃ (x22v5 : Option Addr) (x22N x22C : Nat), ∃ (x22v6 : Option Addr) (x22N1 x22C1 : Nat), v1 = (.agg #[(.int .u16 x22), (.int .u16 x22v1), (.int .u32 x22v2), (.int .u32 x22v3), (.int .u8 x22v4), (.slice x22v5 x22N x22C), (.slice x22v6 x22N1 x22C1)]) ∧
 (RUNA PG (Instr.alloc 32 true (.tuple #[])) w2 fun a5 w3 =>
 RUNU PG (storeVar 32 a5 (.agg #[(.int .u16 x22), (.int .u16 x22v1), (.int .u32 x22v2), (.int .u32 x22v3), (.int .u8 x22v4), (.slice x22v5 x22N x22C), (.slice x22v6 x22N1 x22C1)])) w3 fun w4 =>
 ∃ S : World → Prop, S (w4.drew) ∧
 (RDS PG (loadVar 32 a5) S fun v2 =>
 ∃ x23 : Int, ∃ x23v1 : Int, ∃ x23v2 : Int, ∃ x23v3 : Int, ∃ x23v4 : Int, ∃ (x23v5 : Option Addr) (x23N x23C : Nat), ∃ (x23v6 : Option Addr) (x23N1 x23C1 : Nat), v2 = (.agg #[(.int .u16 x23), (.int .u16 x23v1), (.int .u32 x23v2), (.int .u32 x23v3), (.int .u8 x23v4), (.slice x23v5 x23N x23C), (.slice x23v6 x23N1 x23C1)]) ∧
 (RDSI PG (loadVar 45 (Addr.add a2 0)) .i64 S fun x25 =>
 RDSI PG (loadVar 22 (Addr.add (Addr.add a2 1) 0)) .u16 S fun x28 =>
 RDSI PG (loadVar 22 (Addr.add (Addr.add a2 1) 1)) .u16 S fun x31 =>
 RDSI PG (loadVar 26 (Addr.add a2 3)) .u32 S fun x33 =>
 RDSI PG (loadVar 26 (Addr.add a2 4)) .u32 S fun x35 =>
 CALL PG 23 [(.int .i64 x25), (.int .u16 x28), (.int .u16 x31), (.int .u32 x33), (.int .u32 x35), (.slice data dataN dataC)] (w4.drew) fun v3 w5 =>
 ∃ x37 : Int, ∃ x37v1 : Int, ∃ x37v2 : Int, ∃ x37v3 : Int, ∃ x37v4 : Int, ∃ (x37v5 : Option Addr) (x37N x37C : Nat), ∃ (x37v6 : Option Addr) (x37N1 x37C1 : Nat), v3 = (.agg #[(.int .u16 x37), (.int .u16 x37v1), (.int .u32 x37v2), (.int .u32 x37v3), (.int .u8 x37v4), (.slice x37v5 x37N x37C), (.slice x37v6 x37N1 x37C1)]) ∧
 (∃ S1 : World → Prop, (∀ x, S1 x → S x) ∧ S1 w5 ∧
 (CALL PG 22 [(.agg #[(.int .u16 x23), (.int .u16 x23v1), (.int .u32 x23v2), (.int .u32 x23v3), (.int .u8 x23v4), (.slice x23v5 x23N x23C), (.slice x23v6 x23N1 x23C1)]), (.agg #[(.int .u16 x37), (.int .u16 x37v1), (.int .u32 x37v2), (.int .u32 x37v3), (.int .u8 x37v4), (.slice x37v5 x37N x37C), (.slice x37v6 x37N1 x37C1)])] w5 fun v4 w6 =>
 ∃ x38 : Bool, v4 = (.bool x38) ∧
 (IFB (!x38)
 (Q (.bool false) w6)
 (RDI PG (loadVar 3 (Addr.add a2 6)) .i64 w6 fun x41 =>
 LETI x41 fun many =>
 ∃ R : Int → World → Prop,
 (IFB (decide (many < (0 : Int)))
 (R (0 : Int) w6)
 (R many w6)) ∧
 (∀ (many1 : Int) (w7 : World), R many1 w7 → (∃ R1 : Int → World → Prop,
 (IFB (decide (many1 > (64 : Int)))
 (R1 (64 : Int) w7)
 (R1 many1 w7)) ∧
 (∀ (many2 : Int) (w8 : World), R1 many2 w8 → (RDI PG (loadVar 45 (Addr.add a2 0)) .i64 w8 fun x47 =>
 RD PG (loadVar 47 (Addr.add a2 1)) w8 fun v5 =>
 ∃ x49 : Int, ∃ x49v1 : Int, v5 = (.agg #[(.int .u16 x49), (.int .u16 x49v1)]) ∧
 (RDI PG (loadVar 26 (Addr.add a2 3)) .u32 w8 fun x51 =>
 RDI PG (loadVar 26 (Addr.add a2 5)) .u32 w8 fun x53 =>
 RDI PG (loadVar 3 (Addr.add a2 6)) .i64 w8 fun x55 =>
 CALL PG 24 [(.int .i64 x47), (.agg #[(.int .u16 x49), (.int .u16 x49v1)]), (.int .u32 x51), (.int .u32 x53), (.int .i64 x55)] w8 fun v6 w9 =>
 ∃ (x56 : Option Addr) (x56N x56C : Nat), v6 = (.slice x56 x56N x56C) ∧
 (IFB ((x56N : Int) != many2)
 (Q (.bool false) w9)
 (RDI PG (loadVar 26 (Addr.add a2 3)) .u32 w9 fun x62 =>
 LETI x62 fun atv =>
 ∃ I : Nat → Int → Int → World → Prop,
 (∃ m, I m atv (0 : Int) w9) ∧
 (∀ m1 (atv1 : Int) (i : Int) (w10 : World), I m1 atv1 i w10 → (IFB (decide (i < (x56N : Int)))
 (∃ S2 : World → Prop, S2 (w10.drew) ∧
 (IDX x56 x56N i fun a71 =>
 RDS PG (loadVar 32 (Addr.add a71 (Int.toNat i * 7))) S2 fun v7 =>
 ∃ x72 : Int, ∃ x72v1 : Int, ∃ x72v2 : Int, ∃ x72v3 : Int, ∃ x72v4 : Int, ∃ (x72v5 : Option Addr) (x72N x72C : Nat), ∃ (x72v6 : Option Addr) (x72N1 x72C1 : Nat), v7 = (.agg #[(.int .u16 x72), (.int .u16 x72v1), (.int .u32 x72v2), (.int .u32 x72v3), (.int .u8 x72v4), (.slice x72v5 x72N x72C), (.slice x72v6 x72N1 x72C1)]) ∧
 (RDSI PG (loadVar 45 (Addr.add a2 0)) .i64 S2 fun x74 =>
 RDSI PG (loadVar 22 (Addr.add (Addr.add a2 1) 0)) .u16 S2 fun x77 =>
 RDSI PG (loadVar 22 (Addr.add (Addr.add a2 1) 1)) .u16 S2 fun x80 =>
 CALL PG 23 [(.int .i64 x74), (.int .u16 x77), (.int .u16 x80), (.int .u32 atv1), (.int .u32 (0 : Int)), (.slice none 0 0)] (w10.drew) fun v8 w11 =>
 ∃ x82 : Int, ∃ x82v1 : Int, ∃ x82v2 : Int, ∃ x82v3 : Int, ∃ x82v4 : Int, ∃ (x82v5 : Option Addr) (x82N x82C : Nat), ∃ (x82v6 : Option Addr) (x82N1 x82C1 : Nat), v8 = (.agg #[(.int .u16 x82), (.int .u16 x82v1), (.int .u32 x82v2), (.int .u32 x82v3), (.int .u8 x82v4), (.slice x82v5 x82N x82C), (.slice x82v6 x82N1 x82C1)]) ∧
 (∃ S3 : World → Prop, (∀ x, S3 x → S2 x) ∧ S3 w11 ∧
 (CALL PG 22 [(.agg #[(.int .u16 x72), (.int .u16 x72v1), (.int .u32 x72v2), (.int .u32 x72v3), (.int .u8 x72v4), (.slice x72v5 x72N x72C), (.slice x72v6 x72N1 x72C1)]), (.agg #[(.int .u16 x82), (.int .u16 x82v1), (.int .u32 x82v2), (.int .u32 x82v3), (.int .u8 x82v4), (.slice x82v5 x82N x82C), (.slice x82v6 x82N1 x82C1)])] w11 fun v9 w12 =>
 ∃ x83 : Bool, v9 = (.bool x83) ∧
 (IFB (!x83)
 (Q (.bool false) w12)
 (RDI PG (loadVar 26 (Addr.add a2 5)) .u32 w12 fun x87 =>
 LETI (IntKind.u32.wrap (atv1 + x87)) fun atv2 =>
 LETI (IntKind.i64.wrap (i + (1 : Int))) fun i1 =>
 ∃ m2, m2 < m1 ∧ I m2 atv2 i1 w12)))))))
 (CALL PG 20 [] w10 fun v10 w13 =>
 ∃ x89 : Bool, v10 = (.bool x89) ∧
 (LETB x89 fun x4v1 =>
 Q (.bool x4v1) w13))))))))))))))))))))
theorem eq4 : ∀ (x : Int) (x1 : Int) (x2 : Int) (x3 : Int) (x4 : Int) (x5 : Int) (x6 : Int) (data : Option Addr) (dataN dataC : Nat) (w : World) (Q : Value → World → Prop), vcF PG TB Try.f4 (.s .nil (.s .nil (.s .nil (.s .nil (.s .nil (.cut [(6, 3)] .nil (.cut [(6, 3)] .nil (.s .nil (.s .nil (.s .nil (.s (.s .nil (.u (.loop [(8, 26), (9, 3)] .nil))) .nil))))))))))) [(.agg #[(.int .i64 x), (.int .u16 x1), (.int .u16 x2), (.int .u32 x3), (.int .u32 x4), (.int .u32 x5), (.int .i64 x6)]), (.slice data dataN dataC)] w Q = N4 x x1 x2 x3 x4 x5 x6 data dataN dataC w Q := by intros; kernel_rfl
theorem call4 {x : Int} {x1 : Int} {x2 : Int} {x3 : Int} {x4 : Int} {x5 : Int} {x6 : Int} {data : Option Addr} {dataN dataC : Nat} {w : World} {Q : Value → World → Prop} (hN : N4 x x1 x2 x3 x4 x5 x6 data dataN dataC w Q) : CALL PG 4 [(.agg #[(.int .i64 x), (.int .u16 x1), (.int .u16 x2), (.int .u32 x3), (.int .u32 x4), (.int .u32 x5), (.int .i64 x6)]), (.slice data dataN dataC)] w Q := calls_vc tabOk Try.func4 (by rw [eq4]; exact hN)

/-- brougham/attack.Sweep -/
def N24 (k : Int) (a : Int) (a1 : Int) (fromv : Int) (step : Int) (many : Int) (w : World) (Q : Value → World → Prop) : Prop :=
 RUNA PG (Instr.box 47 (.agg #[(.int .u16 a), (.int .u16 a1)])) w fun a6 w1 =>
 ∃ I : Nat → Option Addr → Nat → Nat → Int → World → Prop,
 (∃ m, I m none 0 0 (0 : Int) w1) ∧
 (∀ m1 (out : Option Addr) (outN outC : Nat) (x16 : Int) (w2 : World), I m1 out outN outC x16 w2 → (IFB (decide (x16 < (minN (maxN many (0 : Int)) (64 : Int))))
 (LETI x16 fun i =>
 RD PG (loadVar 47 a6) w2 fun v =>
 ∃ x21 : Int, ∃ x21v1 : Int, v = (.agg #[(.int .u16 x21), (.int .u16 x21v1)]) ∧
 (CALL PG 21 [(.int .i64 k), (.agg #[(.int .u16 x21), (.int .u16 x21v1)]), (.int .u32 (IntKind.u32.wrap (fromv + (IntKind.u32.wrap ((IntKind.u32.wrap i) * step))))), (.int .u32 (0 : Int)), (.slice none 0 0)] w2 fun v1 w3 =>
 ∃ x28 : Int, ∃ x28v1 : Int, ∃ x28v2 : Int, ∃ x28v3 : Int, ∃ x28v4 : Int, ∃ (x28v5 : Option Addr) (x28N x28C : Nat), ∃ (x28v6 : Option Addr) (x28N1 x28C1 : Nat), v1 = (.agg #[(.int .u16 x28), (.int .u16 x28v1), (.int .u32 x28v2), (.int .u32 x28v3), (.int .u8 x28v4), (.slice x28v5 x28N x28C), (.slice x28v6 x28N1 x28C1)]) ∧
 (RUNL PG (Instr.buildSlice 53 1 #[(0, (.agg #[(.int .u16 x28), (.int .u16 x28v1), (.int .u32 x28v2), (.int .u32 x28v3), (.int .u8 x28v4), (.slice x28v5 x28N x28C), (.slice x28v6 x28N1 x28C1)]))]) w3 fun x29 x29N x29C w4 =>
 RUNL PG (Builtin.append_ #[53, 53] 53 #[(.slice out outN outC), (.slice x29 x29N x29C)]) w4 fun x30 x30N x30C w5 =>
 ∃ m2, m2 < m1 ∧ I m2 x30 x30N x30C (IntKind.i64.wrap (x16 + (1 : Int))) w5)))
 (Q (.slice out outN outC) w2)))
theorem eq24 : ∀ (k : Int) (a : Int) (a1 : Int) (fromv : Int) (step : Int) (many : Int) (w : World) (Q : Value → World → Prop), vcF PG TB Try.f24 (.s .nil (.s .nil (.s (.s .nil (.u (.loop [(11, 53), (16, 3)] .nil))) .nil))) [(.int .i64 k), (.agg #[(.int .u16 a), (.int .u16 a1)]), (.int .u32 fromv), (.int .u32 step), (.int .i64 many)] w Q = N24 k a a1 fromv step many w Q := by intros; kernel_rfl
theorem call24 {k : Int} {a : Int} {a1 : Int} {fromv : Int} {step : Int} {many : Int} {w : World} {Q : Value → World → Prop} (hN : N24 k a a1 fromv step many w Q) : CALL PG 24 [(.int .i64 k), (.agg #[(.int .u16 a), (.int .u16 a1)]), (.int .u32 fromv), (.int .u32 step), (.int .i64 many)] w Q := calls_vc tabOk Try.func24 (by rw [eq24]; exact hN)

end Go.Br
