/- What the code of some functions says, as the core reads it; each reading is checked by the kernel. -/
import Derived.Test.YtmdkhgibipojcaaGreatBrSeat
set_option linter.unusedVariables false
set_option maxRecDepth 100000
namespace Go.Br
open Go Go.Proofs

/-- brougham/broughamlaw23.HostRefuses -/
def N3 (c : Int) (c1 : Int) (c2 : Int) (c3 : Int) (c4 : Int) (c5 : Int) (c6 : Int) (c7 : Int) (c8 : Int) (c9 : Int) (c10 : Int) (c11 : Int) (c12 : Int) (c13 : Int) (c14 : Int) (seed : Int) (seed1 : Int) (asks : Option Addr) (asksN asksC : Nat) (w : World) (Q : Value → World → Prop) : Prop :=
 RUNA PG (Instr.box 24 (.agg #[(.int .i64 c), (.int .i64 c1), (.int .i64 c2), (.int .i64 c3), (.int .i64 c4), (.int .i64 c5), (.int .i64 c6), (.int .i64 c7), (.int .i64 c8), (.int .i64 c9), (.int .i64 c10), (.int .i64 c11), (.int .i64 c12), (.int .i64 c13), (.int .i64 c14)])) w fun a3 w1 =>
 RUNA PG (Instr.box 27 (.agg #[(.int .u64 seed), (.int .u64 seed1)])) w1 fun a4 w2 =>
 RD PG (loadVar 24 a3) w2 fun v =>
 ∃ x17 : Int, ∃ x17v1 : Int, ∃ x17v2 : Int, ∃ x17v3 : Int, ∃ x17v4 : Int, ∃ x17v5 : Int, ∃ x17v6 : Int, ∃ x17v7 : Int, ∃ x17v8 : Int, ∃ x17v9 : Int, ∃ x17v10 : Int, ∃ x17v11 : Int, ∃ x17v12 : Int, ∃ x17v13 : Int, ∃ x17v14 : Int, v = (.agg #[(.int .i64 x17), (.int .i64 x17v1), (.int .i64 x17v2), (.int .i64 x17v3), (.int .i64 x17v4), (.int .i64 x17v5), (.int .i64 x17v6), (.int .i64 x17v7), (.int .i64 x17v8), (.int .i64 x17v9), (.int .i64 x17v10), (.int .i64 x17v11), (.int .i64 x17v12), (.int .i64 x17v13), (.int .i64 x17v14)]) ∧
 (CALL PG 4 [(.agg #[(.int .i64 x17), (.int .i64 x17v1), (.int .i64 x17v2), (.int .i64 x17v3), (.int .i64 x17v4), (.int .i64 x17v5), (.int .i64 x17v6), (.int .i64 x17v7), (.int .i64 x17v8), (.int .i64 x17v9), (.int .i64 x17v10), (.int .i64 x17v11), (.int .i64 x17v12), (.int .i64 x17v13), (.int .i64 x17v14)])] w2 fun v1 w3 =>
 ∃ x18 : Bool, v1 = (.bool x18) ∧
 (IFB (!x18)
 (Q (.bool true) w3)
 (IFB (decide ((asksN : Int) > (60 : Int)))
 (Q (.bool true) w3)
 (RD PG (loadVar 24 a3) w3 fun v2 =>
 ∃ x26 : Int, ∃ x26v1 : Int, ∃ x26v2 : Int, ∃ x26v3 : Int, ∃ x26v4 : Int, ∃ x26v5 : Int, ∃ x26v6 : Int, ∃ x26v7 : Int, ∃ x26v8 : Int, ∃ x26v9 : Int, ∃ x26v10 : Int, ∃ x26v11 : Int, ∃ x26v12 : Int, ∃ x26v13 : Int, ∃ x26v14 : Int, v2 = (.agg #[(.int .i64 x26), (.int .i64 x26v1), (.int .i64 x26v2), (.int .i64 x26v3), (.int .i64 x26v4), (.int .i64 x26v5), (.int .i64 x26v6), (.int .i64 x26v7), (.int .i64 x26v8), (.int .i64 x26v9), (.int .i64 x26v10), (.int .i64 x26v11), (.int .i64 x26v12), (.int .i64 x26v13), (.int .i64 x26v14)]) ∧
 (RD PG (loadVar 27 a4) w3 fun v3 =>
 ∃ x27 : Int, ∃ x27v1 : Int, v3 = (.agg #[(.int .u64 x27), (.int .u64 x27v1)]) ∧
 (CALL PG 5 [(.agg #[(.int .i64 x26), (.int .i64 x26v1), (.int .i64 x26v2), (.int .i64 x26v3), (.int .i64 x26v4), (.int .i64 x26v5), (.int .i64 x26v6), (.int .i64 x26v7), (.int .i64 x26v8), (.int .i64 x26v9), (.int .i64 x26v10), (.int .i64 x26v11), (.int .i64 x26v12), (.int .i64 x26v13), (.int .i64 x26v14)]), (.agg #[(.int .u64 x27), (.int .u64 x27v1)])] w3 fun v4 w4 =>
 ∃ x28 : Option Addr, ∃ x28v1 : Int, v4 = (.tuple #[(.pointer x28), (.int .i64 x28v1)]) ∧
 (LETI x28v1 fun e =>
 IFB (e != (0 : Int))
 (Q (.bool false) w4)
 (IFB (x28.isNone)
 (Q (.bool false) w4)
 (CALL PG 6 [(.pointer x28), (.int .i64 (80 : Int))] w4 fun v5 w5 =>
 ∃ x38 : Int, v5 = (.int .i64 x38) ∧
 (LETB (x38 == (0 : Int)) fun listens =>
 RD PG (Instr.build 35 #[]) w5 fun v6 =>
 ∃ x40 : Value, v6 = x40 ∧
 (RUNA PG (Instr.alloc 35 true (.tuple #[])) w5 fun a10 w6 =>
 RUNU PG (storeVar 35 a10 x40) w6 fun w7 =>
 ∃ I : Nat → Int → Int → World → Prop,
 (∃ m, I m (0 : Int) (0 : Int) w7) ∧
 (∀ m1 (half : Int) (i : Int) (w8 : World), I m1 half i w8 → (IFB (decide (i < (asksN : Int)))
 (∃ S : World → Prop, S (w8.drew) ∧
 (IDX asks asksN i fun a52 =>
 RDSI PG (loadVar 25 (Addr.add a52 (Int.toNat i * 1))) .u64 S fun x53 =>
 IDX asks asksN i fun a57 =>
 RDSI PG (loadVar 25 (Addr.add a57 (Int.toNat i * 1))) .u64 S fun x58 =>
 (CALL PG 7 [(.int .u64 x58), (.int .u64 (0 : Int)), (.bool false)] (w8.drew) fun v7 w9 =>
 ∃ (x59 : Option Addr) (x59N x59C : Nat), v7 = (.slice x59 x59N x59C) ∧
 (∃ S1 : World → Prop, (∀ x, S1 x → S x) ∧ S1 w9 ∧
 (RDS PG (Instr.build 41 #[(0, (.int .u8 (1 : Int))), (1, (.slice x59 x59N x59C))]) S1 fun v8 =>
 ∃ x60 : Int, ∃ (x60v1 : Option Addr) (x60N x60C : Nat), v8 = (.agg #[(.int .u8 x60), (.slice x60v1 x60N x60C)]) ∧
 ((RUNL PG (Instr.buildSlice 42 1 #[(0, (.agg #[(.int .u8 x60), (.slice x60v1 x60N x60C)]))]) w9 fun x61 x61N x61C w10 =>
 ∃ S2 : World → Prop, (∀ x, S2 x → S1 x) ∧ S2 w10 ∧
 (RDS PG (Instr.build 44 #[(0, (.int .u16 (IntKind.u16.wrap (IntKind.i64.wrap ((2000 : Int) + i))))), (1, (.int .u16 (80 : Int))), (2, (.int .u32 (IntKind.u32.wrap x53))), (4, (.int .u8 (1 : Int))), (5, (.slice x61 x61N x61C))]) S2 fun v9 =>
 ∃ x62 : Int, ∃ x62v1 : Int, ∃ x62v2 : Int, ∃ x62v3 : Int, ∃ x62v4 : Int, ∃ (x62v5 : Option Addr) (x62N x62C : Nat), ∃ (x62v6 : Option Addr) (x62N1 x62C1 : Nat), v9 = (.agg #[(.int .u16 x62), (.int .u16 x62v1), (.int .u32 x62v2), (.int .u32 x62v3), (.int .u8 x62v4), (.slice x62v5 x62N x62C), (.slice x62v6 x62N1 x62C1)]) ∧
 (RUNA PG (Instr.alloc 44 true (.tuple #[])) w10 fun a13 w11 =>
 ∃ S3 : World → Prop, (∀ x, S3 x → S2 x) ∧ S3 w11 ∧
 (RUNU PG (storeVar 44 a13 (.agg #[(.int .u16 x62), (.int .u16 x62v1), (.int .u32 x62v2), (.int .u32 x62v3), (.int .u8 x62v4), (.slice x62v5 x62N x62C), (.slice x62v6 x62N1 x62C1)])) w11 fun w12 =>
 RD PG (loadVar 44 a13) w12 fun v10 =>
 ∃ x64 : Int, ∃ x64v1 : Int, ∃ x64v2 : Int, ∃ x64v3 : Int, ∃ x64v4 : Int, ∃ (x64v5 : Option Addr) (x64N x64C : Nat), ∃ (x64v6 : Option Addr) (x64N1 x64C1 : Nat), v10 = (.agg #[(.int .u16 x64), (.int .u16 x64v1), (.int .u32 x64v2), (.int .u32 x64v3), (.int .u8 x64v4), (.slice x64v5 x64N x64C), (.slice x64v6 x64N1 x64C1)]) ∧
 (CALL PG 8 [(.agg #[(.int .u16 x64), (.int .u16 x64v1), (.int .u32 x64v2), (.int .u32 x64v3), (.int .u8 x64v4), (.slice x64v5 x64N x64C), (.slice x64v6 x64N1 x64C1)])] w12 fun v11 w13 =>
 ∃ (x65 : Option Addr) (x65N x65C : Nat), ∃ x65v1 : Int, v11 = (.tuple #[(.slice x65 x65N x65C), (.int .i64 x65v1)]) ∧
 (LETI x65v1 fun x =>
 CALL PG 9 [(.pointer x28), (.int .i64 (0 : Int)), (.slice x65 x65N x65C)] w13 fun v12 w14 =>
 v12 = (.tuple #[]) ∧
 (CALL PG 10 [(.pointer x28)] w14 fun v13 w15 =>
 ∃ (x72 : Option Addr) (x72N x72C : Nat), v13 = (.slice x72 x72N x72C) ∧
 (LETI (x72N : Int) fun out =>
 ∃ R : Int → Int → World → Prop,
 (LETB (!listens) fun x78 =>
 IFB x78
 (NEED (0 ≤ (7 : Int) ∧ (7 : Int) < ((10 : Nat) : Int))
 (RDI PG (loadVar 3 (Addr.add a10 (Int.toNat (7 : Int) * 1))) .i64 w15 fun x82 =>
 NEED (0 ≤ (7 : Int) ∧ (7 : Int) < ((10 : Nat) : Int))
 (RUNU PG (storeVar 3 (Addr.add a10 (Int.toNat (7 : Int) * 1)) (.int .i64 (IntKind.i64.wrap (x82 + (1 : Int))))) w15 fun w16 =>
 R half out w16)))
 (∃ R1 : Bool → World → Prop,
 (RDI PG (loadVar 3 (Addr.add a3 1)) .i64 w15 fun x88 =>
 IFB (decide (half < x88))
 (RDI PG (loadVar 3 (Addr.add a3 2)) .i64 w15 fun x92 =>
 LETB (decide (x92 > (0 : Int))) fun x85 =>
 R1 x85 w15)
 (LETB false fun x85v1 =>
 R1 x85v1 w15)) ∧
 (∀ (x85v2 : Bool) (w17 : World), R1 x85v2 w17 → (IFB x85v2
 (LETI (IntKind.i64.wrap (half + (1 : Int))) fun half1 =>
 NEED (0 ≤ (9 : Int) ∧ (9 : Int) < ((10 : Nat) : Int))
 (RDI PG (loadVar 3 (Addr.add a10 (Int.toNat (9 : Int) * 1))) .i64 w17 fun x98 =>
 NEED (0 ≤ (9 : Int) ∧ (9 : Int) < ((10 : Nat) : Int))
 (RUNU PG (storeVar 3 (Addr.add a10 (Int.toNat (9 : Int) * 1)) (.int .i64 (IntKind.i64.wrap (x98 + (1 : Int))))) w17 fun w18 =>
 LETI (IntKind.i64.wrap (out - (1 : Int))) fun out1 =>
 R half1 out1 w18)))
 (NEED (0 ≤ (8 : Int) ∧ (8 : Int) < ((10 : Nat) : Int))
 (RDI PG (loadVar 3 (Addr.add a10 (Int.toNat (8 : Int) * 1))) .i64 w17 fun x75 =>
 NEED (0 ≤ (8 : Int) ∧ (8 : Int) < ((10 : Nat) : Int))
 (RUNU PG (storeVar 3 (Addr.add a10 (Int.toNat (8 : Int) * 1)) (.int .i64 (IntKind.i64.wrap (x75 + (1 : Int))))) w17 fun w19 =>
 R half out w19))))))) ∧
 (∀ (half2 : Int) (out2 : Int) (w20 : World), R half2 out2 w20 → (∃ S4 : World → Prop, S4 (w20.drew) ∧
 (IFB (out2 != (0 : Int))
 (Q (.bool false) (w20.drew))
 (RDS PG (loadVar 35 a10) S4 fun v14 =>
 ∃ x109 : Value, v14 = x109 ∧
 (CALL PG 12 [(.pointer x28)] (w20.drew) fun v15 w21 =>
 ∃ x107 : Int, ∃ x107v1 : Int, ∃ x107v2 : Int, ∃ x107v3 : Int, ∃ x107v4 : Int, ∃ x107v5 : Int, ∃ x107v6 : Int, ∃ x107v7 : Int, ∃ x107v8 : Int, ∃ x107v9 : Int, v15 = (.agg #[(.int .i64 x107), (.int .i64 x107v1), (.int .i64 x107v2), (.int .i64 x107v3), (.int .i64 x107v4), (.int .i64 x107v5), (.int .i64 x107v6), (.int .i64 x107v7), (.int .i64 x107v8), (.int .i64 x107v9)]) ∧
 (∃ S5 : World → Prop, (∀ x, S5 x → S4 x) ∧ S5 w21 ∧
 (CALL PG 11 [(.agg #[(.int .i64 x107), (.int .i64 x107v1), (.int .i64 x107v2), (.int .i64 x107v3), (.int .i64 x107v4), (.int .i64 x107v5), (.int .i64 x107v6), (.int .i64 x107v7), (.int .i64 x107v8), (.int .i64 x107v9)])] w21 fun v16 w22 =>
 ∃ x108 : Value, v16 = x108 ∧
 (∃ S6 : World → Prop, (∀ x, S6 x → S5 x) ∧ S6 w22 ∧
 (RDSB PG (do eqGuard .neq 35 (.tmp 108) (.tmp 109) x108 x109; binOp .neq 35 x108 x109) S6 fun x110 =>
 IFB x110
 (Q (.bool false) w22)
 (CALL PG 13 [(.pointer x28)] w22 fun v17 w23 =>
 ∃ x114 : Int, ∃ x114v1 : Int, ∃ x114v2 : Int, ∃ x114v3 : Int, ∃ x114v4 : Int, ∃ x114v5 : Int, v17 = (.agg #[(.int .i64 x114), (.int .i64 x114v1), (.int .i64 x114v2), (.int .i64 x114v3), (.int .i64 x114v4), (.int .i64 x114v5)]) ∧
 (IFB (x114v1 != half2)
 (Q (.bool false) w23)
 (LETI (IntKind.i64.wrap (i + (1 : Int))) fun i1 =>
 ∃ m2, m2 < m1 ∧ I m2 half2 i1 w23)))))))))))))))))))) ∧
 (RUNA PG (Instr.alloc 44 true (.tuple #[])) w9 fun a13v1 w24 =>
 ∃ S7 : World → Prop, (∀ x, S7 x → S1 x) ∧ S7 w24 ∧
 (RUNL PG (Instr.buildSlice 42 1 #[(0, (.agg #[(.int .u8 x60), (.slice x60v1 x60N x60C)]))]) w24 fun x61v1 x61N1 x61C1 w25 =>
 ∃ S8 : World → Prop, (∀ x, S8 x → S7 x) ∧ S8 w25 ∧
 (RDS PG (Instr.build 44 #[(0, (.int .u16 (IntKind.u16.wrap (IntKind.i64.wrap ((2000 : Int) + i))))), (1, (.int .u16 (80 : Int))), (2, (.int .u32 (IntKind.u32.wrap x53))), (4, (.int .u8 (1 : Int))), (5, (.slice x61v1 x61N1 x61C1))]) S8 fun v18 =>
 ∃ x62v7 : Int, ∃ x62v8 : Int, ∃ x62v9 : Int, ∃ x62v10 : Int, ∃ x62v11 : Int, ∃ (x62v12 : Option Addr) (x62N2 x62C2 : Nat), ∃ (x62v13 : Option Addr) (x62N3 x62C3 : Nat), v18 = (.agg #[(.int .u16 x62v7), (.int .u16 x62v8), (.int .u32 x62v9), (.int .u32 x62v10), (.int .u8 x62v11), (.slice x62v12 x62N2 x62C2), (.slice x62v13 x62N3 x62C3)]) ∧
 (RUNU PG (storeVar 44 a13v1 (.agg #[(.int .u16 x62v7), (.int .u16 x62v8), (.int .u32 x62v9), (.int .u32 x62v10), (.int .u8 x62v11), (.slice x62v12 x62N2 x62C2), (.slice x62v13 x62N3 x62C3)])) w25 fun w26 =>
 RD PG (loadVar 44 a13v1) w26 fun v19 =>
 ∃ x64v7 : Int, ∃ x64v8 : Int, ∃ x64v9 : Int, ∃ x64v10 : Int, ∃ x64v11 : Int, ∃ (x64v12 : Option Addr) (x64N2 x64C2 : Nat), ∃ (x64v13 : Option Addr) (x64N3 x64C3 : Nat), v19 = (.agg #[(.int .u16 x64v7), (.int .u16 x64v8), (.int .u32 x64v9), (.int .u32 x64v10), (.int .u8 x64v11), (.slice x64v12 x64N2 x64C2), (.slice x64v13 x64N3 x64C3)]) ∧
 (CALL PG 8 [(.agg #[(.int .u16 x64v7), (.int .u16 x64v8), (.int .u32 x64v9), (.int .u32 x64v10), (.int .u8 x64v11), (.slice x64v12 x64N2 x64C2), (.slice x64v13 x64N3 x64C3)])] w26 fun v20 w27 =>
 ∃ (x65v2 : Option Addr) (x65N1 x65C1 : Nat), ∃ x65v3 : Int, v20 = (.tuple #[(.slice x65v2 x65N1 x65C1), (.int .i64 x65v3)]) ∧
 (LETI x65v3 fun x1 =>
 CALL PG 9 [(.pointer x28), (.int .i64 (0 : Int)), (.slice x65v2 x65N1 x65C1)] w27 fun v21 w28 =>
 v21 = (.tuple #[]) ∧
 (CALL PG 10 [(.pointer x28)] w28 fun v22 w29 =>
 ∃ (x72v1 : Option Addr) (x72N1 x72C1 : Nat), v22 = (.slice x72v1 x72N1 x72C1) ∧
 (LETI (x72N1 : Int) fun out3 =>
 ∃ R2 : Int → Int → World → Prop,
 (LETB (!listens) fun x78v1 =>
 IFB x78v1
 (NEED (0 ≤ (7 : Int) ∧ (7 : Int) < ((10 : Nat) : Int))
 (RDI PG (loadVar 3 (Addr.add a10 (Int.toNat (7 : Int) * 1))) .i64 w29 fun x82v1 =>
 NEED (0 ≤ (7 : Int) ∧ (7 : Int) < ((10 : Nat) : Int))
 (RUNU PG (storeVar 3 (Addr.add a10 (Int.toNat (7 : Int) * 1)) (.int .i64 (IntKind.i64.wrap (x82v1 + (1 : Int))))) w29 fun w30 =>
 R2 half out3 w30)))
 (∃ R3 : Bool → World → Prop,
 (RDI PG (loadVar 3 (Addr.add a3 1)) .i64 w29 fun x88v1 =>
 IFB (decide (half < x88v1))
 (RDI PG (loadVar 3 (Addr.add a3 2)) .i64 w29 fun x92v1 =>
 LETB (decide (x92v1 > (0 : Int))) fun x85v3 =>
 R3 x85v3 w29)
 (LETB false fun x85v4 =>
 R3 x85v4 w29)) ∧
 (∀ (x85v5 : Bool) (w31 : World), R3 x85v5 w31 → (IFB x85v5
 (LETI (IntKind.i64.wrap (half + (1 : Int))) fun half3 =>
 NEED (0 ≤ (9 : Int) ∧ (9 : Int) < ((10 : Nat) : Int))
 (RDI PG (loadVar 3 (Addr.add a10 (Int.toNat (9 : Int) * 1))) .i64 w31 fun x98v1 =>
 NEED (0 ≤ (9 : Int) ∧ (9 : Int) < ((10 : Nat) : Int))
 (RUNU PG (storeVar 3 (Addr.add a10 (Int.toNat (9 : Int) * 1)) (.int .i64 (IntKind.i64.wrap (x98v1 + (1 : Int))))) w31 fun w32 =>
 LETI (IntKind.i64.wrap (out3 - (1 : Int))) fun out4 =>
 R2 half3 out4 w32)))
 (NEED (0 ≤ (8 : Int) ∧ (8 : Int) < ((10 : Nat) : Int))
 (RDI PG (loadVar 3 (Addr.add a10 (Int.toNat (8 : Int) * 1))) .i64 w31 fun x75v1 =>
 NEED (0 ≤ (8 : Int) ∧ (8 : Int) < ((10 : Nat) : Int))
 (RUNU PG (storeVar 3 (Addr.add a10 (Int.toNat (8 : Int) * 1)) (.int .i64 (IntKind.i64.wrap (x75v1 + (1 : Int))))) w31 fun w33 =>
 R2 half out3 w33))))))) ∧
 (∀ (half4 : Int) (out5 : Int) (w34 : World), R2 half4 out5 w34 → (∃ S9 : World → Prop, S9 (w34.drew) ∧
 (IFB (out5 != (0 : Int))
 (Q (.bool false) (w34.drew))
 (RDS PG (loadVar 35 a10) S9 fun v23 =>
 ∃ x109v1 : Value, v23 = x109v1 ∧
 (CALL PG 12 [(.pointer x28)] (w34.drew) fun v24 w35 =>
 ∃ x107v10 : Int, ∃ x107v11 : Int, ∃ x107v12 : Int, ∃ x107v13 : Int, ∃ x107v14 : Int, ∃ x107v15 : Int, ∃ x107v16 : Int, ∃ x107v17 : Int, ∃ x107v18 : Int, ∃ x107v19 : Int, v24 = (.agg #[(.int .i64 x107v10), (.int .i64 x107v11), (.int .i64 x107v12), (.int .i64 x107v13), (.int .i64 x107v14), (.int .i64 x107v15), (.int .i64 x107v16), (.int .i64 x107v17), (.int .i64 x107v18), (.int .i64 x107v19)]) ∧
 (∃ S10 : World → Prop, (∀ x, S10 x → S9 x) ∧ S10 w35 ∧
 (CALL PG 11 [(.agg #[(.int .i64 x107v10), (.int .i64 x107v11), (.int .i64 x107v12), (.int .i64 x107v13), (.int .i64 x107v14), (.int .i64 x107v15), (.int .i64 x107v16), (.int .i64 x107v17), (.int .i64 x107v18), (.int .i64 x107v19)])] w35 fun v25 w36 =>
 ∃ x108v1 : Value, v25 = x108v1 ∧
 (∃ S11 : World → Prop, (∀ x, S11 x → S10 x) ∧ S11 w36 ∧
 (RDSB PG (do eqGuard .neq 35 (.tmp 108) (.tmp 109) x108v1 x109v1; binOp .neq 35 x108v1 x109v1) S11 fun x110v1 =>
 IFB x110v1
 (Q (.bool false) w36)
 (CALL PG 13 [(.pointer x28)] w36 fun v26 w37 =>
 ∃ x114v6 : Int, ∃ x114v7 : Int, ∃ x114v8 : Int, ∃ x114v9 : Int, ∃ x114v10 : Int, ∃ x114v11 : Int, v26 = (.agg #[(.int .i64 x114v6), (.int .i64 x114v7), (.int .i64 x114v8), (.int .i64 x114v9), (.int .i64 x114v10), (.int .i64 x114v11)]) ∧
 (IFB (x114v7 != half4)
 (Q (.bool false) w37)
 (LETI (IntKind.i64.wrap (i + (1 : Int))) fun i2 =>
 ∃ m3, m3 < m1 ∧ I m3 half4 i2 w37)))))))))))))))))))))))) ∧
 (RUNA PG (Instr.alloc 44 true (.tuple #[])) (w8.drew) fun a13v2 w38 =>
 ∃ S12 : World → Prop, (∀ x, S12 x → S x) ∧ S12 w38 ∧
 (CALL PG 7 [(.int .u64 x58), (.int .u64 (0 : Int)), (.bool false)] w38 fun v27 w39 =>
 ∃ (x59v1 : Option Addr) (x59N1 x59C1 : Nat), v27 = (.slice x59v1 x59N1 x59C1) ∧
 (∃ S13 : World → Prop, (∀ x, S13 x → S12 x) ∧ S13 w39 ∧
 (RDS PG (Instr.build 41 #[(0, (.int .u8 (1 : Int))), (1, (.slice x59v1 x59N1 x59C1))]) S13 fun v28 =>
 ∃ x60v2 : Int, ∃ (x60v3 : Option Addr) (x60N1 x60C1 : Nat), v28 = (.agg #[(.int .u8 x60v2), (.slice x60v3 x60N1 x60C1)]) ∧
 (RUNL PG (Instr.buildSlice 42 1 #[(0, (.agg #[(.int .u8 x60v2), (.slice x60v3 x60N1 x60C1)]))]) w39 fun x61v2 x61N2 x61C2 w40 =>
 ∃ S14 : World → Prop, (∀ x, S14 x → S13 x) ∧ S14 w40 ∧
 (RDS PG (Instr.build 44 #[(0, (.int .u16 (IntKind.u16.wrap (IntKind.i64.wrap ((2000 : Int) + i))))), (1, (.int .u16 (80 : Int))), (2, (.int .u32 (IntKind.u32.wrap x53))), (4, (.int .u8 (1 : Int))), (5, (.slice x61v2 x61N2 x61C2))]) S14 fun v29 =>
 ∃ x62v14 : Int, ∃ x62v15 : Int, ∃ x62v16 : Int, ∃ x62v17 : Int, ∃ x62v18 : Int, ∃ (x62v19 : Option Addr) (x62N4 x62C4 : Nat), ∃ (x62v20 : Option Addr) (x62N5 x62C5 : Nat), v29 = (.agg #[(.int .u16 x62v14), (.int .u16 x62v15), (.int .u32 x62v16), (.int .u32 x62v17), (.int .u8 x62v18), (.slice x62v19 x62N4 x62C4), (.slice x62v20 x62N5 x62C5)]) ∧
 (RUNU PG (storeVar 44 a13v2 (.agg #[(.int .u16 x62v14), (.int .u16 x62v15), (.int .u32 x62v16), (.int .u32 x62v17), (.int .u8 x62v18), (.slice x62v19 x62N4 x62C4), (.slice x62v20 x62N5 x62C5)])) w40 fun w41 =>
 RD PG (loadVar 44 a13v2) w41 fun v30 =>
 ∃ x64v14 : Int, ∃ x64v15 : Int, ∃ x64v16 : Int, ∃ x64v17 : Int, ∃ x64v18 : Int, ∃ (x64v19 : Option Addr) (x64N4 x64C4 : Nat), ∃ (x64v20 : Option Addr) (x64N5 x64C5 : Nat), v30 = (.agg #[(.int .u16 x64v14), (.int .u16 x64v15), (.int .u32 x64v16), (.int .u32 x64v17), (.int .u8 x64v18), (.slice x64v19 x64N4 x64C4), (.slice x64v20 x64N5 x64C5)]) ∧
 (CALL PG 8 [(.agg #[(.int .u16 x64v14), (.int .u16 x64v15), (.int .u32 x64v16), (.int .u32 x64v17), (.int .u8 x64v18), (.slice x64v19 x64N4 x64C4), (.slice x64v20 x64N5 x64C5)])] w41 fun v31 w42 =>
 ∃ (x65v4 : Option Addr) (x65N2 x65C2 : Nat), ∃ x65v5 : Int, v31 = (.tuple #[(.slice x65v4 x65N2 x65C2), (.int .i64 x65v5)]) ∧
 (LETI x65v5 fun x2 =>
 CALL PG 9 [(.pointer x28), (.int .i64 (0 : Int)), (.slice x65v4 x65N2 x65C2)] w42 fun v32 w43 =>
 v32 = (.tuple #[]) ∧
 (CALL PG 10 [(.pointer x28)] w43 fun v33 w44 =>
 ∃ (x72v2 : Option Addr) (x72N2 x72C2 : Nat), v33 = (.slice x72v2 x72N2 x72C2) ∧
 (LETI (x72N2 : Int) fun out6 =>
 ∃ R4 : Int → Int → World → Prop,
 (LETB (!listens) fun x78v2 =>
 IFB x78v2
 (NEED (0 ≤ (7 : Int) ∧ (7 : Int) < ((10 : Nat) : Int))
 (RDI PG (loadVar 3 (Addr.add a10 (Int.toNat (7 : Int) * 1))) .i64 w44 fun x82v2 =>
 NEED (0 ≤ (7 : Int) ∧ (7 : Int) < ((10 : Nat) : Int))
 (RUNU PG (storeVar 3 (Addr.add a10 (Int.toNat (7 : Int) * 1)) (.int .i64 (IntKind.i64.wrap (x82v2 + (1 : Int))))) w44 fun w45 =>
 R4 half out6 w45)))
 (∃ R5 : Bool → World → Prop,
 (RDI PG (loadVar 3 (Addr.add a3 1)) .i64 w44 fun x88v2 =>
 IFB (decide (half < x88v2))
 (RDI PG (loadVar 3 (Addr.add a3 2)) .i64 w44 fun x92v2 =>
 LETB (decide (x92v2 > (0 : Int))) fun x85v6 =>
 R5 x85v6 w44)
 (LETB false fun x85v7 =>
 R5 x85v7 w44)) ∧
 (∀ (x85v8 : Bool) (w46 : World), R5 x85v8 w46 → (IFB x85v8
 (LETI (IntKind.i64.wrap (half + (1 : Int))) fun half5 =>
 NEED (0 ≤ (9 : Int) ∧ (9 : Int) < ((10 : Nat) : Int))
 (RDI PG (loadVar 3 (Addr.add a10 (Int.toNat (9 : Int) * 1))) .i64 w46 fun x98v2 =>
 NEED (0 ≤ (9 : Int) ∧ (9 : Int) < ((10 : Nat) : Int))
 (RUNU PG (storeVar 3 (Addr.add a10 (Int.toNat (9 : Int) * 1)) (.int .i64 (IntKind.i64.wrap (x98v2 + (1 : Int))))) w46 fun w47 =>
 LETI (IntKind.i64.wrap (out6 - (1 : Int))) fun out7 =>
 R4 half5 out7 w47)))
 (NEED (0 ≤ (8 : Int) ∧ (8 : Int) < ((10 : Nat) : Int))
 (RDI PG (loadVar 3 (Addr.add a10 (Int.toNat (8 : Int) * 1))) .i64 w46 fun x75v2 =>
 NEED (0 ≤ (8 : Int) ∧ (8 : Int) < ((10 : Nat) : Int))
 (RUNU PG (storeVar 3 (Addr.add a10 (Int.toNat (8 : Int) * 1)) (.int .i64 (IntKind.i64.wrap (x75v2 + (1 : Int))))) w46 fun w48 =>
 R4 half out6 w48))))))) ∧
 (∀ (half6 : Int) (out8 : Int) (w49 : World), R4 half6 out8 w49 → (∃ S15 : World → Prop, S15 (w49.drew) ∧
 (IFB (out8 != (0 : Int))
 (Q (.bool false) (w49.drew))
 (RDS PG (loadVar 35 a10) S15 fun v34 =>
 ∃ x109v2 : Value, v34 = x109v2 ∧
 (CALL PG 12 [(.pointer x28)] (w49.drew) fun v35 w50 =>
 ∃ x107v20 : Int, ∃ x107v21 : Int, ∃ x107v22 : Int, ∃ x107v23 : Int, ∃ x107v24 : Int, ∃ x107v25 : Int, ∃ x107v26 : Int, ∃ x107v27 : Int, ∃ x107v28 : Int, ∃ x107v29 : Int, v35 = (.agg #[(.int .i64 x107v20), (.int .i64 x107v21), (.int .i64 x107v22), (.int .i64 x107v23), (.int .i64 x107v24), (.int .i64 x107v25), (.int .i64 x107v26), (.int .i64 x107v27), (.int .i64 x107v28), (.int .i64 x107v29)]) ∧
 (∃ S16 : World → Prop, (∀ x, S16 x → S15 x) ∧ S16 w50 ∧
 (CALL PG 11 [(.agg #[(.int .i64 x107v20), (.int .i64 x107v21), (.int .i64 x107v22), (.int .i64 x107v23), (.int .i64 x107v24), (.int .i64 x107v25), (.int .i64 x107v26), (.int .i64 x107v27), (.int .i64 x107v28), (.int .i64 x107v29)])] w50 fun v36 w51 =>
 ∃ x108v2 : Value, v36 = x108v2 ∧
 (∃ S17 : World → Prop, (∀ x, S17 x → S16 x) ∧ S17 w51 ∧
 (RDSB PG (do eqGuard .neq 35 (.tmp 108) (.tmp 109) x108v2 x109v2; binOp .neq 35 x108v2 x109v2) S17 fun x110v2 =>
 IFB x110v2
 (Q (.bool false) w51)
 (CALL PG 13 [(.pointer x28)] w51 fun v37 w52 =>
 ∃ x114v12 : Int, ∃ x114v13 : Int, ∃ x114v14 : Int, ∃ x114v15 : Int, ∃ x114v16 : Int, ∃ x114v17 : Int, v37 = (.agg #[(.int .i64 x114v12), (.int .i64 x114v13), (.int .i64 x114v14), (.int .i64 x114v15), (.int .i64 x114v16), (.int .i64 x114v17)]) ∧
 (IFB (x114v13 != half6)
 (Q (.bool false) w52)
 (LETI (IntKind.i64.wrap (i + (1 : Int))) fun i3 =>
 ∃ m4, m4 < m1 ∧ I m4 half6 i3 w52)))))))))))))))))))))))))
 (RDI PG (loadVar 3 (Addr.add a3 0)) .i64 w8 fun x121 =>
 IFB (listens == (decide (x121 > (0 : Int))))
 (CALL PG 14 [] w8 fun v38 w53 =>
 ∃ x125 : Bool, v38 = (.bool x125) ∧
 (LETB x125 fun x6 =>
 Q (.bool x6) w53))
 (LETB false fun x6v1 =>
 Q (.bool x6v1) w8)))))))))))))))
theorem eq3 : ∀ (c : Int) (c1 : Int) (c2 : Int) (c3 : Int) (c4 : Int) (c5 : Int) (c6 : Int) (c7 : Int) (c8 : Int) (c9 : Int) (c10 : Int) (c11 : Int) (c12 : Int) (c13 : Int) (c14 : Int) (seed : Int) (seed1 : Int) (asks : Option Addr) (asksN asksC : Nat) (w : World) (Q : Value → World → Prop), vcF PG TB Tryz.f3 (.s .nil (.s .nil (.s .nil (.s .nil (.s .nil (.s .nil (.s .nil (.s (.s .nil (.u (.loop [(11, 3), (12, 3)] (.s .nil (.s (.u (.s .nil (.s .nil (.s .nil (.s .nil (.cut [(11, 3), (16, 3)] (.u (.s .nil (.c .nil (.cut [(85, 4)] .nil .nil)))) .nil)))))) .nil))))) .nil)))))))) [(.agg #[(.int .i64 c), (.int .i64 c1), (.int .i64 c2), (.int .i64 c3), (.int .i64 c4), (.int .i64 c5), (.int .i64 c6), (.int .i64 c7), (.int .i64 c8), (.int .i64 c9), (.int .i64 c10), (.int .i64 c11), (.int .i64 c12), (.int .i64 c13), (.int .i64 c14)]), (.agg #[(.int .u64 seed), (.int .u64 seed1)]), (.slice asks asksN asksC)] w Q = N3 c c1 c2 c3 c4 c5 c6 c7 c8 c9 c10 c11 c12 c13 c14 seed seed1 asks asksN asksC w Q := by intros; kernel_rfl
theorem call3 {c : Int} {c1 : Int} {c2 : Int} {c3 : Int} {c4 : Int} {c5 : Int} {c6 : Int} {c7 : Int} {c8 : Int} {c9 : Int} {c10 : Int} {c11 : Int} {c12 : Int} {c13 : Int} {c14 : Int} {seed : Int} {seed1 : Int} {asks : Option Addr} {asksN asksC : Nat} {w : World} {Q : Value → World → Prop} (hN : N3 c c1 c2 c3 c4 c5 c6 c7 c8 c9 c10 c11 c12 c13 c14 seed seed1 asks asksN asksC w Q) : CALL PG 3 [(.agg #[(.int .i64 c), (.int .i64 c1), (.int .i64 c2), (.int .i64 c3), (.int .i64 c4), (.int .i64 c5), (.int .i64 c6), (.int .i64 c7), (.int .i64 c8), (.int .i64 c9), (.int .i64 c10), (.int .i64 c11), (.int .i64 c12), (.int .i64 c13), (.int .i64 c14)]), (.agg #[(.int .u64 seed), (.int .u64 seed1)]), (.slice asks asksN asksC)] w Q := calls_vc tabOk Tryz.func3 (by rw [eq3]; exact hN)

end Go.Br
