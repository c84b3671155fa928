/- What the code of some functions says, as the core reads it; each reading is checked by the kernel. -/
import Derived.Test.YtggcccfdckeooaaGreatBrSeat
set_option linter.unusedVariables false
set_option maxRecDepth 100000
namespace Go.Br
open Go Go.Proofs

/-- brougham/broughamlaw23.HostAsks -/
def N5 (c : Int) (c1 : Int) (c2 : Int) (c3 : Int) (c4 : Int) (c5 : Int) (c6 : Int) (c7 : Int) (c8 : Int) (c9 : Int) (c10 : Int) (c11 : Int) (c12 : Int) (c13 : Int) (c14 : Int) (seed : Int) (seed1 : Int) (o : Int) (o1 : Int) (o2 : Int) (o3 : Int) (w : World) (Q : Value → World → Prop) : Prop :=
 RUNA PG (Instr.box 49 (.agg #[(.int .i64 c), (.int .i64 c1), (.int .i64 c2), (.int .i64 c3), (.int .i64 c4), (.int .i64 c5), (.int .i64 c6), (.int .i64 c7), (.int .i64 c8), (.int .i64 c9), (.int .i64 c10), (.int .i64 c11), (.int .i64 c12), (.int .i64 c13), (.int .i64 c14)])) w fun a3 w1 =>
 RUNA PG (Instr.box 27 (.agg #[(.int .u64 seed), (.int .u64 seed1)])) w1 fun a4 w2 =>
 RUNA PG (Instr.box 57 (.agg #[(.int .i64 o), (.int .i64 o1), (.int .i64 o2), (.int .i64 o3)])) w2 fun a5 w3 =>
 RD PG (loadVar 49 a3) w3 fun v =>
 ∃ x15 : Int, ∃ x15v1 : Int, ∃ x15v2 : Int, ∃ x15v3 : Int, ∃ x15v4 : Int, ∃ x15v5 : Int, ∃ x15v6 : Int, ∃ x15v7 : Int, ∃ x15v8 : Int, ∃ x15v9 : Int, ∃ x15v10 : Int, ∃ x15v11 : Int, ∃ x15v12 : Int, ∃ x15v13 : Int, ∃ x15v14 : Int, v = (.agg #[(.int .i64 x15), (.int .i64 x15v1), (.int .i64 x15v2), (.int .i64 x15v3), (.int .i64 x15v4), (.int .i64 x15v5), (.int .i64 x15v6), (.int .i64 x15v7), (.int .i64 x15v8), (.int .i64 x15v9), (.int .i64 x15v10), (.int .i64 x15v11), (.int .i64 x15v12), (.int .i64 x15v13), (.int .i64 x15v14)]) ∧
 (CALL PG 14 [(.agg #[(.int .i64 x15), (.int .i64 x15v1), (.int .i64 x15v2), (.int .i64 x15v3), (.int .i64 x15v4), (.int .i64 x15v5), (.int .i64 x15v6), (.int .i64 x15v7), (.int .i64 x15v8), (.int .i64 x15v9), (.int .i64 x15v10), (.int .i64 x15v11), (.int .i64 x15v12), (.int .i64 x15v13), (.int .i64 x15v14)])] w3 fun v1 w4 =>
 ∃ x16 : Bool, v1 = (.bool x16) ∧
 (IFB (!x16)
 (Q (.bool true) w4)
 (RDI PG (loadVar 3 (Addr.add a3 2)) .i64 w4 fun x20 =>
 IFB (x20 == (0 : Int))
 (Q (.bool true) w4)
 (RDI PG (loadVar 3 (Addr.add a5 1)) .i64 w4 fun x25 =>
 IFB (decide (x25 < (1 : Int)))
 (Q (.bool true) w4)
 (RDI PG (loadVar 3 (Addr.add a5 1)) .i64 w4 fun x30 =>
 IFB (decide (x30 > (65535 : Int)))
 (Q (.bool true) w4)
 (RDI PG (loadVar 3 (Addr.add a5 2)) .i64 w4 fun x35 =>
 IFB (decide (x35 < (1 : Int)))
 (Q (.bool true) w4)
 (RDI PG (loadVar 3 (Addr.add a5 2)) .i64 w4 fun x40 =>
 IFB (decide (x40 > (65535 : Int)))
 (Q (.bool true) w4)
 (RDI PG (loadVar 3 (Addr.add a5 3)) .i64 w4 fun x45 =>
 IFB (decide (x45 < (0 : Int)))
 (Q (.bool true) w4)
 (RDI PG (loadVar 3 (Addr.add a5 3)) .i64 w4 fun x50 =>
 RDI PG (loadVar 3 (Addr.add a3 7)) .i64 w4 fun x52 =>
 IFB (decide (x50 ≥ x52))
 (Q (.bool true) w4)
 (RD PG (loadVar 49 a3) w4 fun v2 =>
 ∃ x56 : Int, ∃ x56v1 : Int, ∃ x56v2 : Int, ∃ x56v3 : Int, ∃ x56v4 : Int, ∃ x56v5 : Int, ∃ x56v6 : Int, ∃ x56v7 : Int, ∃ x56v8 : Int, ∃ x56v9 : Int, ∃ x56v10 : Int, ∃ x56v11 : Int, ∃ x56v12 : Int, ∃ x56v13 : Int, ∃ x56v14 : Int, v2 = (.agg #[(.int .i64 x56), (.int .i64 x56v1), (.int .i64 x56v2), (.int .i64 x56v3), (.int .i64 x56v4), (.int .i64 x56v5), (.int .i64 x56v6), (.int .i64 x56v7), (.int .i64 x56v8), (.int .i64 x56v9), (.int .i64 x56v10), (.int .i64 x56v11), (.int .i64 x56v12), (.int .i64 x56v13), (.int .i64 x56v14)]) ∧
 (RD PG (loadVar 27 a4) w4 fun v3 =>
 ∃ x57 : Int, ∃ x57v1 : Int, v3 = (.agg #[(.int .u64 x57), (.int .u64 x57v1)]) ∧
 (CALL PG 13 [(.agg #[(.int .i64 x56), (.int .i64 x56v1), (.int .i64 x56v2), (.int .i64 x56v3), (.int .i64 x56v4), (.int .i64 x56v5), (.int .i64 x56v6), (.int .i64 x56v7), (.int .i64 x56v8), (.int .i64 x56v9), (.int .i64 x56v10), (.int .i64 x56v11), (.int .i64 x56v12), (.int .i64 x56v13), (.int .i64 x56v14)]), (.agg #[(.int .u64 x57), (.int .u64 x57v1)])] w4 fun v4 w5 =>
 ∃ x58 : Option Addr, ∃ x58v1 : Int, v4 = (.tuple #[(.pointer x58), (.int .i64 x58v1)]) ∧
 (LETI x58v1 fun e =>
 IFB (e != (0 : Int))
 (Q (.bool false) w5)
 (IFB (x58.isNone)
 (Q (.bool false) w5)
 (RDI PG (loadVar 3 (Addr.add a5 1)) .i64 w5 fun x70 =>
 RDI PG (loadVar 3 (Addr.add a5 2)) .i64 w5 fun x72 =>
 RDI PG (loadVar 3 (Addr.add a5 3)) .i64 w5 fun x74 =>
 CALL PG 17 [(.pointer x58), (.int .i64 x70), (.int .i64 x72), (.int .i64 x74)] w5 fun v5 w6 =>
 ∃ x75 : Int, ∃ x75v1 : Int, v5 = (.tuple #[(.int .i64 x75), (.int .i64 x75v1)]) ∧
 (LETI x75 fun n =>
 LETI x75v1 fun f =>
 CALL PG 18 [(.pointer x58)] w6 fun v6 w7 =>
 ∃ (x79 : Option Addr) (x79N x79C : Nat), v6 = (.slice x79 x79N x79C) ∧
 (IFB (n != (1 : Int))
 (Q (.bool false) w7)
 (IFB (f != (0 : Int))
 (Q (.bool false) w7)
 (IFB ((x79N : Int) != (1 : Int))
 (Q (.bool false) w7)
 (CALL PG 18 [(.pointer x58)] w7 fun v7 w8 =>
 ∃ (x93 : Option Addr) (x93N x93C : Nat), v7 = (.slice x93 x93N x93C) ∧
 (IFB ((x93N : Int) != (0 : Int))
 (Q (.bool false) w8)
 (∃ S : World → Prop, S (w8.drew) ∧
 (RDSI PG (loadVar 3 (Addr.add a5 1)) .i64 S fun x98 =>
 RDSI PG (loadVar 3 (Addr.add a5 2)) .i64 S fun x101 =>
 RDS PG (loadVar 27 a4) S fun v8 =>
 ∃ x103 : Int, ∃ x103v1 : Int, v8 = (.agg #[(.int .u64 x103), (.int .u64 x103v1)]) ∧
 (RDS PG (loadVar 27 a4) S fun v9 =>
 ∃ x106 : Int, ∃ x106v1 : Int, v9 = (.agg #[(.int .u64 x106), (.int .u64 x106v1)]) ∧
 ((CALL PG 19 [(.agg #[(.int .u64 x103), (.int .u64 x103v1)]), (.int .u64 (1 : Int))] (w8.drew) fun v10 w9 =>
 ∃ x104 : Int, v10 = (.int .u64 x104) ∧
 (∃ S1 : World → Prop, (∀ x, S1 x → S x) ∧ S1 w9 ∧
 ((CALL PG 19 [(.agg #[(.int .u64 x106), (.int .u64 x106v1)]), (.int .u64 (0 : Int))] w9 fun v11 w10 =>
 ∃ x107 : Int, v11 = (.int .u64 x107) ∧
 (∃ S2 : World → Prop, (∀ x, S2 x → S1 x) ∧ S2 w10 ∧
 ((CALL PG 20 [(.int .u64 x107), (.int .u64 (0 : Int)), (.bool false)] w10 fun v12 w11 =>
 ∃ (x108 : Option Addr) (x108N x108C : Nat), v12 = (.slice x108 x108N x108C) ∧
 (∃ S3 : World → Prop, (∀ x, S3 x → S2 x) ∧ S3 w11 ∧
 (RDS PG (Instr.build 67 #[(0, (.int .u8 (1 : Int))), (1, (.slice x108 x108N x108C))]) S3 fun v13 =>
 ∃ x109 : Int, ∃ (x109v1 : Option Addr) (x109N x109C : Nat), v13 = (.agg #[(.int .u8 x109), (.slice x109v1 x109N x109C)]) ∧
 ((RUNL PG (Instr.buildSlice 68 1 #[(0, (.agg #[(.int .u8 x109), (.slice x109v1 x109N x109C)]))]) w11 fun x110 x110N x110C w12 =>
 ∃ S4 : World → Prop, (∀ x, S4 x → S3 x) ∧ S4 w12 ∧
 (RDS PG (Instr.build 70 #[(0, (.int .u16 (IntKind.u16.wrap x98))), (1, (.int .u16 (IntKind.u16.wrap x101))), (2, (.int .u32 (IntKind.u32.wrap x104))), (4, (.int .u8 (1 : Int))), (5, (.slice x110 x110N x110C))]) S4 fun v14 =>
 ∃ x111 : Int, ∃ x111v1 : Int, ∃ x111v2 : Int, ∃ x111v3 : Int, ∃ x111v4 : Int, ∃ (x111v5 : Option Addr) (x111N x111C : Nat), ∃ (x111v6 : Option Addr) (x111N1 x111C1 : Nat), v14 = (.agg #[(.int .u16 x111), (.int .u16 x111v1), (.int .u32 x111v2), (.int .u32 x111v3), (.int .u8 x111v4), (.slice x111v5 x111N x111C), (.slice x111v6 x111N1 x111C1)]) ∧
 (RUNA PG (Instr.alloc 70 true (.tuple #[])) w12 fun a12 w13 =>
 ∃ S5 : World → Prop, (∀ x, S5 x → S4 x) ∧ S5 w13 ∧
 (RUNU PG (storeVar 70 a12 (.agg #[(.int .u16 x111), (.int .u16 x111v1), (.int .u32 x111v2), (.int .u32 x111v3), (.int .u8 x111v4), (.slice x111v5 x111N x111C), (.slice x111v6 x111N1 x111C1)])) w13 fun w14 =>
 RD PG (loadVar 70 a12) w14 fun v15 =>
 ∃ x113 : Int, ∃ x113v1 : Int, ∃ x113v2 : Int, ∃ x113v3 : Int, ∃ x113v4 : Int, ∃ (x113v5 : Option Addr) (x113N x113C : Nat), ∃ (x113v6 : Option Addr) (x113N1 x113C1 : Nat), v15 = (.agg #[(.int .u16 x113), (.int .u16 x113v1), (.int .u32 x113v2), (.int .u32 x113v3), (.int .u8 x113v4), (.slice x113v5 x113N x113C), (.slice x113v6 x113N1 x113C1)]) ∧
 (CALL PG 21 [(.agg #[(.int .u16 x113), (.int .u16 x113v1), (.int .u32 x113v2), (.int .u32 x113v3), (.int .u8 x113v4), (.slice x113v5 x113N x113C), (.slice x113v6 x113N1 x113C1)])] w14 fun v16 w15 =>
 ∃ (x114 : Option Addr) (x114N x114C : Nat), ∃ x114v1 : Int, v16 = (.tuple #[(.slice x114 x114N x114C), (.int .i64 x114v1)]) ∧
 (LETI x114v1 fun x =>
 IDX x79 x79N (0 : Int) fun a118 =>
 RDI PG (loadVar 3 (Addr.add (Addr.add a118 (Int.toNat (0 : Int) * 2)) 0)) .i64 (w15.drew) fun x120 =>
 RDI PG (loadVar 3 (Addr.add a5 3)) .i64 (w15.drew) fun x122 =>
 IFB (x120 == x122)
 (IDX x79 x79N (0 : Int) fun a126 =>
 RDL PG (loadVar 64 (Addr.add (Addr.add a126 (Int.toNat (0 : Int) * 2)) 1)) (w15.drew) fun x128 x128N x128C =>
 RDT PG (convert 64 9 (.slice x128 x128N x128C)) (w15.drew) fun x129 =>
 RDT PG (convert 64 9 (.slice x114 x114N x114C)) (w15.drew) fun x131 =>
 IFB (x129.toList == x131.toList)
 (CALL PG 16 [] (w15.drew) fun v17 w16 =>
 ∃ x135 : Bool, v17 = (.bool x135) ∧
 (LETB x135 fun x6 =>
 Q (.bool x6) w16))
 (LETB false fun x6v1 =>
 Q (.bool x6v1) (w15.drew)))
 (LETB false fun x6v2 =>
 Q (.bool x6v2) (w15.drew)))))))) ∧
 (RUNA PG (Instr.alloc 70 true (.tuple #[])) w11 fun a12v1 w17 =>
 ∃ S6 : World → Prop, (∀ x, S6 x → S3 x) ∧ S6 w17 ∧
 (RUNL PG (Instr.buildSlice 68 1 #[(0, (.agg #[(.int .u8 x109), (.slice x109v1 x109N x109C)]))]) w17 fun x110v1 x110N1 x110C1 w18 =>
 ∃ S7 : World → Prop, (∀ x, S7 x → S6 x) ∧ S7 w18 ∧
 (RDS PG (Instr.build 70 #[(0, (.int .u16 (IntKind.u16.wrap x98))), (1, (.int .u16 (IntKind.u16.wrap x101))), (2, (.int .u32 (IntKind.u32.wrap x104))), (4, (.int .u8 (1 : Int))), (5, (.slice x110v1 x110N1 x110C1))]) S7 fun v18 =>
 ∃ x111v7 : Int, ∃ x111v8 : Int, ∃ x111v9 : Int, ∃ x111v10 : Int, ∃ x111v11 : Int, ∃ (x111v12 : Option Addr) (x111N2 x111C2 : Nat), ∃ (x111v13 : Option Addr) (x111N3 x111C3 : Nat), v18 = (.agg #[(.int .u16 x111v7), (.int .u16 x111v8), (.int .u32 x111v9), (.int .u32 x111v10), (.int .u8 x111v11), (.slice x111v12 x111N2 x111C2), (.slice x111v13 x111N3 x111C3)]) ∧
 (RUNU PG (storeVar 70 a12v1 (.agg #[(.int .u16 x111v7), (.int .u16 x111v8), (.int .u32 x111v9), (.int .u32 x111v10), (.int .u8 x111v11), (.slice x111v12 x111N2 x111C2), (.slice x111v13 x111N3 x111C3)])) w18 fun w19 =>
 RD PG (loadVar 70 a12v1) w19 fun v19 =>
 ∃ x113v7 : Int, ∃ x113v8 : Int, ∃ x113v9 : Int, ∃ x113v10 : Int, ∃ x113v11 : Int, ∃ (x113v12 : Option Addr) (x113N2 x113C2 : Nat), ∃ (x113v13 : Option Addr) (x113N3 x113C3 : Nat), v19 = (.agg #[(.int .u16 x113v7), (.int .u16 x113v8), (.int .u32 x113v9), (.int .u32 x113v10), (.int .u8 x113v11), (.slice x113v12 x113N2 x113C2), (.slice x113v13 x113N3 x113C3)]) ∧
 (CALL PG 21 [(.agg #[(.int .u16 x113v7), (.int .u16 x113v8), (.int .u32 x113v9), (.int .u32 x113v10), (.int .u8 x113v11), (.slice x113v12 x113N2 x113C2), (.slice x113v13 x113N3 x113C3)])] w19 fun v20 w20 =>
 ∃ (x114v2 : Option Addr) (x114N1 x114C1 : Nat), ∃ x114v3 : Int, v20 = (.tuple #[(.slice x114v2 x114N1 x114C1), (.int .i64 x114v3)]) ∧
 (LETI x114v3 fun x1 =>
 IDX x79 x79N (0 : Int) fun a118v1 =>
 RDI PG (loadVar 3 (Addr.add (Addr.add a118v1 (Int.toNat (0 : Int) * 2)) 0)) .i64 (w20.drew) fun x120v1 =>
 RDI PG (loadVar 3 (Addr.add a5 3)) .i64 (w20.drew) fun x122v1 =>
 IFB (x120v1 == x122v1)
 (IDX x79 x79N (0 : Int) fun a126v1 =>
 RDL PG (loadVar 64 (Addr.add (Addr.add a126v1 (Int.toNat (0 : Int) * 2)) 1)) (w20.drew) fun x128v1 x128N1 x128C1 =>
 RDT PG (convert 64 9 (.slice x128v1 x128N1 x128C1)) (w20.drew) fun x129v1 =>
 RDT PG (convert 64 9 (.slice x114v2 x114N1 x114C1)) (w20.drew) fun x131v1 =>
 IFB (x129v1.toList == x131v1.toList)
 (CALL PG 16 [] (w20.drew) fun v21 w21 =>
 ∃ x135v1 : Bool, v21 = (.bool x135v1) ∧
 (LETB x135v1 fun x6v3 =>
 Q (.bool x6v3) w21))
 (LETB false fun x6v4 =>
 Q (.bool x6v4) (w20.drew)))
 (LETB false fun x6v5 =>
 Q (.bool x6v5) (w20.drew)))))))))))) ∧
 (RUNA PG (Instr.alloc 70 true (.tuple #[])) w10 fun a12v2 w22 =>
 ∃ S8 : World → Prop, (∀ x, S8 x → S2 x) ∧ S8 w22 ∧
 (CALL PG 20 [(.int .u64 x107), (.int .u64 (0 : Int)), (.bool false)] w22 fun v22 w23 =>
 ∃ (x108v1 : Option Addr) (x108N1 x108C1 : Nat), v22 = (.slice x108v1 x108N1 x108C1) ∧
 (∃ S9 : World → Prop, (∀ x, S9 x → S8 x) ∧ S9 w23 ∧
 (RDS PG (Instr.build 67 #[(0, (.int .u8 (1 : Int))), (1, (.slice x108v1 x108N1 x108C1))]) S9 fun v23 =>
 ∃ x109v2 : Int, ∃ (x109v3 : Option Addr) (x109N1 x109C1 : Nat), v23 = (.agg #[(.int .u8 x109v2), (.slice x109v3 x109N1 x109C1)]) ∧
 (RUNL PG (Instr.buildSlice 68 1 #[(0, (.agg #[(.int .u8 x109v2), (.slice x109v3 x109N1 x109C1)]))]) w23 fun x110v2 x110N2 x110C2 w24 =>
 ∃ S10 : World → Prop, (∀ x, S10 x → S9 x) ∧ S10 w24 ∧
 (RDS PG (Instr.build 70 #[(0, (.int .u16 (IntKind.u16.wrap x98))), (1, (.int .u16 (IntKind.u16.wrap x101))), (2, (.int .u32 (IntKind.u32.wrap x104))), (4, (.int .u8 (1 : Int))), (5, (.slice x110v2 x110N2 x110C2))]) S10 fun v24 =>
 ∃ x111v14 : Int, ∃ x111v15 : Int, ∃ x111v16 : Int, ∃ x111v17 : Int, ∃ x111v18 : Int, ∃ (x111v19 : Option Addr) (x111N4 x111C4 : Nat), ∃ (x111v20 : Option Addr) (x111N5 x111C5 : Nat), v24 = (.agg #[(.int .u16 x111v14), (.int .u16 x111v15), (.int .u32 x111v16), (.int .u32 x111v17), (.int .u8 x111v18), (.slice x111v19 x111N4 x111C4), (.slice x111v20 x111N5 x111C5)]) ∧
 (RUNU PG (storeVar 70 a12v2 (.agg #[(.int .u16 x111v14), (.int .u16 x111v15), (.int .u32 x111v16), (.int .u32 x111v17), (.int .u8 x111v18), (.slice x111v19 x111N4 x111C4), (.slice x111v20 x111N5 x111C5)])) w24 fun w25 =>
 RD PG (loadVar 70 a12v2) w25 fun v25 =>
 ∃ x113v14 : Int, ∃ x113v15 : Int, ∃ x113v16 : Int, ∃ x113v17 : Int, ∃ x113v18 : Int, ∃ (x113v19 : Option Addr) (x113N4 x113C4 : Nat), ∃ (x113v20 : Option Addr) (x113N5 x113C5 : Nat), v25 = (.agg #[(.int .u16 x113v14), (.int .u16 x113v15), (.int .u32 x113v16), (.int .u32 x113v17), (.int .u8 x113v18), (.slice x113v19 x113N4 x113C4), (.slice x113v20 x113N5 x113C5)]) ∧
 (CALL PG 21 [(.agg #[(.int .u16 x113v14), (.int .u16 x113v15), (.int .u32 x113v16), (.int .u32 x113v17), (.int .u8 x113v18), (.slice x113v19 x113N4 x113C4), (.slice x113v20 x113N5 x113C5)])] w25 fun v26 w26 =>
 ∃ (x114v4 : Option Addr) (x114N2 x114C2 : Nat), ∃ x114v5 : Int, v26 = (.tuple #[(.slice x114v4 x114N2 x114C2), (.int .i64 x114v5)]) ∧
 (LETI x114v5 fun x2 =>
 IDX x79 x79N (0 : Int) fun a118v2 =>
 RDI PG (loadVar 3 (Addr.add (Addr.add a118v2 (Int.toNat (0 : Int) * 2)) 0)) .i64 (w26.drew) fun x120v2 =>
 RDI PG (loadVar 3 (Addr.add a5 3)) .i64 (w26.drew) fun x122v2 =>
 IFB (x120v2 == x122v2)
 (IDX x79 x79N (0 : Int) fun a126v2 =>
 RDL PG (loadVar 64 (Addr.add (Addr.add a126v2 (Int.toNat (0 : Int) * 2)) 1)) (w26.drew) fun x128v2 x128N2 x128C2 =>
 RDT PG (convert 64 9 (.slice x128v2 x128N2 x128C2)) (w26.drew) fun x129v2 =>
 RDT PG (convert 64 9 (.slice x114v4 x114N2 x114C2)) (w26.drew) fun x131v2 =>
 IFB (x129v2.toList == x131v2.toList)
 (CALL PG 16 [] (w26.drew) fun v27 w27 =>
 ∃ x135v2 : Bool, v27 = (.bool x135v2) ∧
 (LETB x135v2 fun x6v6 =>
 Q (.bool x6v6) w27))
 (LETB false fun x6v7 =>
 Q (.bool x6v7) (w26.drew)))
 (LETB false fun x6v8 =>
 Q (.bool x6v8) (w26.drew)))))))))))))) ∧
 (RUNA PG (Instr.alloc 70 true (.tuple #[])) w9 fun a12v3 w28 =>
 ∃ S11 : World → Prop, (∀ x, S11 x → S1 x) ∧ S11 w28 ∧
 (CALL PG 19 [(.agg #[(.int .u64 x106), (.int .u64 x106v1)]), (.int .u64 (0 : Int))] w28 fun v28 w29 =>
 ∃ x107v1 : Int, v28 = (.int .u64 x107v1) ∧
 (∃ S12 : World → Prop, (∀ x, S12 x → S11 x) ∧ S12 w29 ∧
 (CALL PG 20 [(.int .u64 x107v1), (.int .u64 (0 : Int)), (.bool false)] w29 fun v29 w30 =>
 ∃ (x108v2 : Option Addr) (x108N2 x108C2 : Nat), v29 = (.slice x108v2 x108N2 x108C2) ∧
 (∃ S13 : World → Prop, (∀ x, S13 x → S12 x) ∧ S13 w30 ∧
 (RDS PG (Instr.build 67 #[(0, (.int .u8 (1 : Int))), (1, (.slice x108v2 x108N2 x108C2))]) S13 fun v30 =>
 ∃ x109v4 : Int, ∃ (x109v5 : Option Addr) (x109N2 x109C2 : Nat), v30 = (.agg #[(.int .u8 x109v4), (.slice x109v5 x109N2 x109C2)]) ∧
 (RUNL PG (Instr.buildSlice 68 1 #[(0, (.agg #[(.int .u8 x109v4), (.slice x109v5 x109N2 x109C2)]))]) w30 fun x110v3 x110N3 x110C3 w31 =>
 ∃ S14 : World → Prop, (∀ x, S14 x → S13 x) ∧ S14 w31 ∧
 (RDS PG (Instr.build 70 #[(0, (.int .u16 (IntKind.u16.wrap x98))), (1, (.int .u16 (IntKind.u16.wrap x101))), (2, (.int .u32 (IntKind.u32.wrap x104))), (4, (.int .u8 (1 : Int))), (5, (.slice x110v3 x110N3 x110C3))]) S14 fun v31 =>
 ∃ x111v21 : Int, ∃ x111v22 : Int, ∃ x111v23 : Int, ∃ x111v24 : Int, ∃ x111v25 : Int, ∃ (x111v26 : Option Addr) (x111N6 x111C6 : Nat), ∃ (x111v27 : Option Addr) (x111N7 x111C7 : Nat), v31 = (.agg #[(.int .u16 x111v21), (.int .u16 x111v22), (.int .u32 x111v23), (.int .u32 x111v24), (.int .u8 x111v25), (.slice x111v26 x111N6 x111C6), (.slice x111v27 x111N7 x111C7)]) ∧
 (RUNU PG (storeVar 70 a12v3 (.agg #[(.int .u16 x111v21), (.int .u16 x111v22), (.int .u32 x111v23), (.int .u32 x111v24), (.int .u8 x111v25), (.slice x111v26 x111N6 x111C6), (.slice x111v27 x111N7 x111C7)])) w31 fun w32 =>
 RD PG (loadVar 70 a12v3) w32 fun v32 =>
 ∃ x113v21 : Int, ∃ x113v22 : Int, ∃ x113v23 : Int, ∃ x113v24 : Int, ∃ x113v25 : Int, ∃ (x113v26 : Option Addr) (x113N6 x113C6 : Nat), ∃ (x113v27 : Option Addr) (x113N7 x113C7 : Nat), v32 = (.agg #[(.int .u16 x113v21), (.int .u16 x113v22), (.int .u32 x113v23), (.int .u32 x113v24), (.int .u8 x113v25), (.slice x113v26 x113N6 x113C6), (.slice x113v27 x113N7 x113C7)]) ∧
 (CALL PG 21 [(.agg #[(.int .u16 x113v21), (.int .u16 x113v22), (.int .u32 x113v23), (.int .u32 x113v24), (.int .u8 x113v25), (.slice x113v26 x113N6 x113C6), (.slice x113v27 x113N7 x113C7)])] w32 fun v33 w33 =>
 ∃ (x114v6 : Option Addr) (x114N3 x114C3 : Nat), ∃ x114v7 : Int, v33 = (.tuple #[(.slice x114v6 x114N3 x114C3), (.int .i64 x114v7)]) ∧
 (LETI x114v7 fun x3 =>
 IDX x79 x79N (0 : Int) fun a118v3 =>
 RDI PG (loadVar 3 (Addr.add (Addr.add a118v3 (Int.toNat (0 : Int) * 2)) 0)) .i64 (w33.drew) fun x120v3 =>
 RDI PG (loadVar 3 (Addr.add a5 3)) .i64 (w33.drew) fun x122v3 =>
 IFB (x120v3 == x122v3)
 (IDX x79 x79N (0 : Int) fun a126v3 =>
 RDL PG (loadVar 64 (Addr.add (Addr.add a126v3 (Int.toNat (0 : Int) * 2)) 1)) (w33.drew) fun x128v3 x128N3 x128C3 =>
 RDT PG (convert 64 9 (.slice x128v3 x128N3 x128C3)) (w33.drew) fun x129v3 =>
 RDT PG (convert 64 9 (.slice x114v6 x114N3 x114C3)) (w33.drew) fun x131v3 =>
 IFB (x129v3.toList == x131v3.toList)
 (CALL PG 16 [] (w33.drew) fun v34 w34 =>
 ∃ x135v3 : Bool, v34 = (.bool x135v3) ∧
 (LETB x135v3 fun x6v9 =>
 Q (.bool x6v9) w34))
 (LETB false fun x6v10 =>
 Q (.bool x6v10) (w33.drew)))
 (LETB false fun x6v11 =>
 Q (.bool x6v11) (w33.drew)))))))))))))))) ∧
 (RUNA PG (Instr.alloc 70 true (.tuple #[])) (w8.drew) fun a12v4 w35 =>
 ∃ S15 : World → Prop, (∀ x, S15 x → S x) ∧ S15 w35 ∧
 (CALL PG 19 [(.agg #[(.int .u64 x103), (.int .u64 x103v1)]), (.int .u64 (1 : Int))] w35 fun v35 w36 =>
 ∃ x104v1 : Int, v35 = (.int .u64 x104v1) ∧
 (∃ S16 : World → Prop, (∀ x, S16 x → S15 x) ∧ S16 w36 ∧
 (CALL PG 19 [(.agg #[(.int .u64 x106), (.int .u64 x106v1)]), (.int .u64 (0 : Int))] w36 fun v36 w37 =>
 ∃ x107v2 : Int, v36 = (.int .u64 x107v2) ∧
 (∃ S17 : World → Prop, (∀ x, S17 x → S16 x) ∧ S17 w37 ∧
 (CALL PG 20 [(.int .u64 x107v2), (.int .u64 (0 : Int)), (.bool false)] w37 fun v37 w38 =>
 ∃ (x108v3 : Option Addr) (x108N3 x108C3 : Nat), v37 = (.slice x108v3 x108N3 x108C3) ∧
 (∃ S18 : World → Prop, (∀ x, S18 x → S17 x) ∧ S18 w38 ∧
 (RDS PG (Instr.build 67 #[(0, (.int .u8 (1 : Int))), (1, (.slice x108v3 x108N3 x108C3))]) S18 fun v38 =>
 ∃ x109v6 : Int, ∃ (x109v7 : Option Addr) (x109N3 x109C3 : Nat), v38 = (.agg #[(.int .u8 x109v6), (.slice x109v7 x109N3 x109C3)]) ∧
 (RUNL PG (Instr.buildSlice 68 1 #[(0, (.agg #[(.int .u8 x109v6), (.slice x109v7 x109N3 x109C3)]))]) w38 fun x110v4 x110N4 x110C4 w39 =>
 ∃ S19 : World → Prop, (∀ x, S19 x → S18 x) ∧ S19 w39 ∧
 (RDS PG (Instr.build 70 #[(0, (.int .u16 (IntKind.u16.wrap x98))), (1, (.int .u16 (IntKind.u16.wrap x101))), (2, (.int .u32 (IntKind.u32.wrap x104v1))), (4, (.int .u8 (1 : Int))), (5, (.slice x110v4 x110N4 x110C4))]) S19 fun v39 =>
 ∃ x111v28 : Int, ∃ x111v29 : Int, ∃ x111v30 : Int, ∃ x111v31 : Int, ∃ x111v32 : Int, ∃ (x111v33 : Option Addr) (x111N8 x111C8 : Nat), ∃ (x111v34 : Option Addr) (x111N9 x111C9 : Nat), v39 = (.agg #[(.int .u16 x111v28), (.int .u16 x111v29), (.int .u32 x111v30), (.int .u32 x111v31), (.int .u8 x111v32), (.slice x111v33 x111N8 x111C8), (.slice x111v34 x111N9 x111C9)]) ∧
 (RUNU PG (storeVar 70 a12v4 (.agg #[(.int .u16 x111v28), (.int .u16 x111v29), (.int .u32 x111v30), (.int .u32 x111v31), (.int .u8 x111v32), (.slice x111v33 x111N8 x111C8), (.slice x111v34 x111N9 x111C9)])) w39 fun w40 =>
 RD PG (loadVar 70 a12v4) w40 fun v40 =>
 ∃ x113v28 : Int, ∃ x113v29 : Int, ∃ x113v30 : Int, ∃ x113v31 : Int, ∃ x113v32 : Int, ∃ (x113v33 : Option Addr) (x113N8 x113C8 : Nat), ∃ (x113v34 : Option Addr) (x113N9 x113C9 : Nat), v40 = (.agg #[(.int .u16 x113v28), (.int .u16 x113v29), (.int .u32 x113v30), (.int .u32 x113v31), (.int .u8 x113v32), (.slice x113v33 x113N8 x113C8), (.slice x113v34 x113N9 x113C9)]) ∧
 (CALL PG 21 [(.agg #[(.int .u16 x113v28), (.int .u16 x113v29), (.int .u32 x113v30), (.int .u32 x113v31), (.int .u8 x113v32), (.slice x113v33 x113N8 x113C8), (.slice x113v34 x113N9 x113C9)])] w40 fun v41 w41 =>
 ∃ (x114v8 : Option Addr) (x114N4 x114C4 : Nat), ∃ x114v9 : Int, v41 = (.tuple #[(.slice x114v8 x114N4 x114C4), (.int .i64 x114v9)]) ∧
 (LETI x114v9 fun x4 =>
 IDX x79 x79N (0 : Int) fun a118v4 =>
 RDI PG (loadVar 3 (Addr.add (Addr.add a118v4 (Int.toNat (0 : Int) * 2)) 0)) .i64 (w41.drew) fun x120v4 =>
 RDI PG (loadVar 3 (Addr.add a5 3)) .i64 (w41.drew) fun x122v4 =>
 IFB (x120v4 == x122v4)
 (IDX x79 x79N (0 : Int) fun a126v4 =>
 RDL PG (loadVar 64 (Addr.add (Addr.add a126v4 (Int.toNat (0 : Int) * 2)) 1)) (w41.drew) fun x128v4 x128N4 x128C4 =>
 RDT PG (convert 64 9 (.slice x128v4 x128N4 x128C4)) (w41.drew) fun x129v4 =>
 RDT PG (convert 64 9 (.slice x114v8 x114N4 x114C4)) (w41.drew) fun x131v4 =>
 IFB (x129v4.toList == x131v4.toList)
 (CALL PG 16 [] (w41.drew) fun v42 w42 =>
 ∃ x135v4 : Bool, v42 = (.bool x135v4) ∧
 (LETB x135v4 fun x6v12 =>
 Q (.bool x6v12) w42))
 (LETB false fun x6v13 =>
 Q (.bool x6v13) (w41.drew)))
 (LETB false fun x6v14 =>
 Q (.bool x6v14) (w41.drew))))))))))))))))))))))))))))))))))))))))
theorem eq5 : ∀ (c : Int) (c1 : Int) (c2 : Int) (c3 : Int) (c4 : Int) (c5 : Int) (c6 : Int) (c7 : Int) (c8 : Int) (c9 : Int) (c10 : Int) (c11 : Int) (c12 : Int) (c13 : Int) (c14 : Int) (seed : Int) (seed1 : Int) (o : Int) (o1 : Int) (o2 : Int) (o3 : Int) (w : World) (Q : Value → World → Prop), vcF PG TB Tryz.f5 .nil [(.agg #[(.int .i64 c), (.int .i64 c1), (.int .i64 c2), (.int .i64 c3), (.int .i64 c4), (.int .i64 c5), (.int .i64 c6), (.int .i64 c7), (.int .i64 c8), (.int .i64 c9), (.int .i64 c10), (.int .i64 c11), (.int .i64 c12), (.int .i64 c13), (.int .i64 c14)]), (.agg #[(.int .u64 seed), (.int .u64 seed1)]), (.agg #[(.int .i64 o), (.int .i64 o1), (.int .i64 o2), (.int .i64 o3)])] w Q = N5 c c1 c2 c3 c4 c5 c6 c7 c8 c9 c10 c11 c12 c13 c14 seed seed1 o o1 o2 o3 w Q := by intros; kernel_rfl
theorem call5 {c : Int} {c1 : Int} {c2 : Int} {c3 : Int} {c4 : Int} {c5 : Int} {c6 : Int} {c7 : Int} {c8 : Int} {c9 : Int} {c10 : Int} {c11 : Int} {c12 : Int} {c13 : Int} {c14 : Int} {seed : Int} {seed1 : Int} {o : Int} {o1 : Int} {o2 : Int} {o3 : Int} {w : World} {Q : Value → World → Prop} (hN : N5 c c1 c2 c3 c4 c5 c6 c7 c8 c9 c10 c11 c12 c13 c14 seed seed1 o o1 o2 o3 w Q) : CALL PG 5 [(.agg #[(.int .i64 c), (.int .i64 c1), (.int .i64 c2), (.int .i64 c3), (.int .i64 c4), (.int .i64 c5), (.int .i64 c6), (.int .i64 c7), (.int .i64 c8), (.int .i64 c9), (.int .i64 c10), (.int .i64 c11), (.int .i64 c12), (.int .i64 c13), (.int .i64 c14)]), (.agg #[(.int .u64 seed), (.int .u64 seed1)]), (.agg #[(.int .i64 o), (.int .i64 o1), (.int .i64 o2), (.int .i64 o3)])] w Q := calls_vc tabOk Tryz.func5 (by rw [eq5]; exact hN)

end Go.Br
