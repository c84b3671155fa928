/- What the code of some functions says, as the core reads it; each reading is checked by the kernel. -/
import Derived.Test.YtmglifmopjedbaaGreatBrSeat
set_option linter.unusedVariables false
set_option maxRecDepth 100000
namespace Go.Br
open Go Go.Proofs
def N5 (c : Int) (c1 : Int) (c2 : Int) (c3 : Int) (c4 : Int) (c5 : Int) (c6 : Int) (c7 : Int) (c8 : Int) (c9 : Int) (c10 : Int) (c11 : Int) (c12 : Int) (c13 : Int) (c14 : Int) (x : Int) (x1 : Int) (x2 : Int) (x3 : Int) (x4 : Int) (x5 : Int) (w : World) (Q : QP) : Prop :=
 RUNA PG (Instr.box 24 (.agg #[(.int .i64 c),(.int .i64 c1),(.int .i64 c2),(.int .i64 c3),(.int .i64 c4),(.int .i64 c5),(.int .i64 c6),(.int .i64 c7),(.int .i64 c8),(.int .i64 c9),(.int .i64 c10),(.int .i64 c11),(.int .i64 c12),(.int .i64 c13),(.int .i64 c14)])) w fun a2 w1 =>
 RUNA PG (Instr.box 30 (.agg #[(.int .u64 x),(.int .u64 x1),(.int .u32 x2),(.int .u32 x3),(.int .u64 x4),(.int .u64 x5)])) w1 fun a3 w2 =>
 RD PG (loadVar 24 a2) w2 fun v =>
 ∃ x6 : Int,∃ x6v1 : Int,∃ x6v2 : Int,∃ x6v3 : Int,∃ x6v4 : Int,∃ x6v5 : Int,∃ x6v6 : Int,∃ x6v7 : Int,∃ x6v8 : Int,∃ x6v9 : Int,∃ x6v10 : Int,∃ x6v11 : Int,∃ x6v12 : Int,∃ x6v13 : Int,∃ x6v14 : Int,v = (.agg #[(.int .i64 x6),(.int .i64 x6v1),(.int .i64 x6v2),(.int .i64 x6v3),(.int .i64 x6v4),(.int .i64 x6v5),(.int .i64 x6v6),(.int .i64 x6v7),(.int .i64 x6v8),(.int .i64 x6v9),(.int .i64 x6v10),(.int .i64 x6v11),(.int .i64 x6v12),(.int .i64 x6v13),(.int .i64 x6v14)]) /\
 (RD PG (loadVar 30 a3) w2 fun v1 =>
 ∃ x7 : Int,∃ x7v1 : Int,∃ x7v2 : Int,∃ x7v3 : Int,∃ x7v4 : Int,∃ x7v5 : Int,v1 = (.agg #[(.int .u64 x7),(.int .u64 x7v1),(.int .u32 x7v2),(.int .u32 x7v3),(.int .u64 x7v4),(.int .u64 x7v5)]) /\
 (RD PG (loadVar 28 (a3.add 4)) w2 fun v2 =>
 ∃ x9 : Int,∃ x9v1 : Int,v2 = (.agg #[(.int .u64 x9),(.int .u64 x9v1)]) /\
 (RD PG (Instr.build 73 #[(0,(.agg #[(.int .u64 x9),(.int .u64 x9v1)]))]) w2 fun v3 =>
 ∃ x10 : Int,∃ x10v1 : Int,∃ x10v2 : Int,v3 = (.agg #[(.int .u64 x10),(.int .u64 x10v1),(.int .u64 x10v2)]) /\
 (RUNA PG (Instr.box 73 (.agg #[(.int .u64 x10),(.int .u64 x10v1),(.int .u64 x10v2)])) w2 fun a11 w3 =>
 RD PG (Instr.build 38 #[(2,(.agg #[(.int .i64 x6),(.int .i64 x6v1),(.int .i64 x6v2),(.int .i64 x6v3),(.int .i64 x6v4),(.int .i64 x6v5),(.int .i64 x6v6),(.int .i64 x6v7),(.int .i64 x6v8),(.int .i64 x6v9),(.int .i64 x6v10),(.int .i64 x6v11),(.int .i64 x6v12),(.int .i64 x6v13),(.int .i64 x6v14)])),(3,(.agg #[(.int .u64 x7),(.int .u64 x7v1),(.int .u32 x7v2),(.int .u32 x7v3),(.int .u64 x7v4),(.int .u64 x7v5)])),(4,(.pointer (some a11)))]) w3 fun v4 =>
 ∃ x12 : Value,v4 = x12 /\
 (RUNA PG (Instr.box 38 x12) w3 fun a13 w4 =>
 RD PG (loadVar 24 a2) w4 fun v5 =>
 ∃ x15 : Int,∃ x15v1 : Int,∃ x15v2 : Int,∃ x15v3 : Int,∃ x15v4 : Int,∃ x15v5 : Int,∃ x15v6 : Int,∃ x15v7 : Int,∃ x15v8 : Int,∃ x15v9 : Int,∃ x15v10 : Int,∃ x15v11 : Int,∃ x15v12 : Int,∃ x15v13 : Int,∃ x15v14 : Int,v5 = (.agg #[(.int .i64 x15),(.int .i64 x15v1),(.int .i64 x15v2),(.int .i64 x15v3),(.int .i64 x15v4),(.int .i64 x15v5),(.int .i64 x15v6),(.int .i64 x15v7),(.int .i64 x15v8),(.int .i64 x15v9),(.int .i64 x15v10),(.int .i64 x15v11),(.int .i64 x15v12),(.int .i64 x15v13),(.int .i64 x15v14)]) /\
 (RDI PG (loadVar 25 (a3.add 0)) .u64 w4 fun x17 =>
 RD PG (Instr.build 51 #[(0,(.int .i64 0)),(1,(.int .u16 1000)),(2,(.int .u16 80))]) w4 fun v6 =>
 ∃ x18 : Int,∃ x18v1 : Int,∃ x18v2 : Int,v6 = (.agg #[(.int .i64 x18),(.int .u16 x18v1),(.int .u16 x18v2)]) /\
 (RDI PG (loadVar 26 (a3.add 2)) .u32 w4 fun x20 =>
 CALL PG 14 [(.agg #[(.int .i64 x15),(.int .i64 x15v1),(.int .i64 x15v2),(.int .i64 x15v3),(.int .i64 x15v4),(.int .i64 x15v5),(.int .i64 x15v6),(.int .i64 x15v7),(.int .i64 x15v8),(.int .i64 x15v9),(.int .i64 x15v10),(.int .i64 x15v11),(.int .i64 x15v12),(.int .i64 x15v13),(.int .i64 x15v14)]),(.int .u64 x17),(.agg #[(.int .i64 x18),(.int .u16 x18v1),(.int .u16 x18v2)]),(.int .u32 x20)] w4 fun v7 w5 =>
 ∃ x21 : Option Addr,v7 = (.pointer x21) /\
 (RUNU PG (storeVar 34 (a13.add 0) (.pointer x21)) w5 fun w6 =>
 RDP PG (loadVar 34 (a13.add 0)) w6 fun x27 =>
 IFB (x27.isNone)
 (Q (.pointer none) w6)
 (CALL PG 15 [(.pointer (some a13))] w6 fun v8 w7 =>
 v8 = (.tuple #[]) /\
 (Q (.pointer (some a13)) w7))))))))))
theorem call5 {c : Int} {c1 : Int} {c2 : Int} {c3 : Int} {c4 : Int} {c5 : Int} {c6 : Int} {c7 : Int} {c8 : Int} {c9 : Int} {c10 : Int} {c11 : Int} {c12 : Int} {c13 : Int} {c14 : Int} {x : Int} {x1 : Int} {x2 : Int} {x3 : Int} {x4 : Int} {x5 : Int} {w : World} {Q : QP} (h_ : N5 c c1 c2 c3 c4 c5 c6 c7 c8 c9 c10 c11 c12 c13 c14 x x1 x2 x3 x4 x5 w Q) : CALL PG 5 [(.agg #[(.int .i64 c),(.int .i64 c1),(.int .i64 c2),(.int .i64 c3),(.int .i64 c4),(.int .i64 c5),(.int .i64 c6),(.int .i64 c7),(.int .i64 c8),(.int .i64 c9),(.int .i64 c10),(.int .i64 c11),(.int .i64 c12),(.int .i64 c13),(.int .i64 c14)]),(.agg #[(.int .u64 x),(.int .u64 x1),(.int .u32 x2),(.int .u32 x3),(.int .u64 x4),(.int .u64 x5)])] w Q:=calls_vq .nil tabOk Tryz.func5 (by kernel_rfl) h_
def N18 (t : Option Addr) (f : Int) (f1 : Int) (f2 : Option Addr) (fN fC : Nat) (w : World) (Q : QP) : Prop :=
 RUNA PG (Instr.box 79 (.agg #[(.int .i64 f),(.int .i64 f1),(.slice f2 fN fC)])) w fun a3 w1 =>
 RDL PG (loadVar 41 (a3.add 2)) w1 fun x21 x21N x21C =>
 CALL PG 41 [(.slice x21 x21N x21C)] w1 fun v w2 =>
 ∃ x22 : Int,∃ x22v1 : Int,∃ x22v2 : Int,∃ x22v3 : Int,∃ x22v4 : Int,∃ (x22v5 : Option Addr) (x22N x22C : Nat),∃ (x22v6 : Option Addr) (x22N1 x22C1 : Nat),∃ x22v7 : Int,v = (.tuple #[(.agg #[(.int .u16 x22),(.int .u16 x22v1),(.int .u32 x22v2),(.int .u32 x22v3),(.int .u8 x22v4),(.slice x22v5 x22N x22C),(.slice x22v6 x22N1 x22C1)]),(.int .i64 x22v7)]) /\
 (RUNA PG (Instr.alloc 118 true (.tuple #[])) w2 fun a5 w3 =>
 RUNU PG (storeVar 118 a5 (.agg #[(.int .u16 x22),(.int .u16 x22v1),(.int .u32 x22v2),(.int .u32 x22v3),(.int .u8 x22v4),(.slice x22v5 x22N x22C),(.slice x22v6 x22N1 x22C1)])) w3 fun w4 =>
 LETI x22v7 fun e =>
 IFB (e != 0)
 (Q (.int .i64 0) w4)
 (NILC t fun a28 =>
 RDP PG (loadVar 34 (a28.add 0)) w4 fun x30 =>
 ∃ R : Option Addr -> World -> Prop,
 (RDI PG (loadVar 3 (a3.add 0)) .i64 w4 fun x32 =>
 IFB (x32 == 1)
 (NILC t fun a35 =>
 RDP PG (loadVar 34 (a35.add 1)) w4 fun x37 =>
 R x37 w4)
 (R x30 w4)) /\
 (∀ (x : Option Addr) (w5 : World),R x w5 -> (RDI PG (loadVar 3 (a3.add 1)) .i64 w5 fun x39 =>
 RDI PG (loadVar 49 (a5.add 1)) .u16 w5 fun x41 =>
 RDI PG (loadVar 49 (a5.add 0)) .u16 w5 fun x43 =>
 RD PG (Instr.build 51 #[(0,(.int .i64 x39)),(1,(.int .u16 x41)),(2,(.int .u16 x43))]) w5 fun v1 =>
 ∃ x44 : Int,∃ x44v1 : Int,∃ x44v2 : Int,v1 = (.agg #[(.int .i64 x44),(.int .u16 x44v1),(.int .u16 x44v2)]) /\
 (RUNA PG (Instr.alloc 51 true (.tuple #[])) w5 fun a8 w6 =>
 RUNU PG (storeVar 51 a8 (.agg #[(.int .i64 x44),(.int .u16 x44v1),(.int .u16 x44v2)])) w6 fun w7 =>
 IFB (x.isNone)
 (RD PG (loadVar 118 a5) w7 fun v2 =>
 ∃ x48 : Int,∃ x48v1 : Int,∃ x48v2 : Int,∃ x48v3 : Int,∃ x48v4 : Int,∃ (x48v5 : Option Addr) (x48N x48C : Nat),∃ (x48v6 : Option Addr) (x48N1 x48C1 : Nat),v2 = (.agg #[(.int .u16 x48),(.int .u16 x48v1),(.int .u32 x48v2),(.int .u32 x48v3),(.int .u8 x48v4),(.slice x48v5 x48N x48C),(.slice x48v6 x48N1 x48C1)]) /\
 (CALL PG 42 [(.agg #[(.int .u16 x48),(.int .u16 x48v1),(.int .u32 x48v2),(.int .u32 x48v3),(.int .u8 x48v4),(.slice x48v5 x48N x48C),(.slice x48v6 x48N1 x48C1)]),(.int .u8 1)] w7 fun v3 w8 =>
 ∃ x49 : Int,∃ (x49v1 : Option Addr) (x49N x49C : Nat),∃ x49v2 : Bool,v3 = (.tuple #[(.agg #[(.int .u8 x49),(.slice x49v1 x49N x49C)]),(.bool x49v2)]) /\
 (RUNA PG (Instr.alloc 122 true (.tuple #[])) w8 fun a9 w9 =>
 RUNU PG (storeVar 122 a9 (.agg #[(.int .u8 x49),(.slice x49v1 x49N x49C)])) w9 fun w10 =>
 LETB x49v2 fun okv =>
 RD PG (loadVar 122 a9) w10 fun v4 =>
 ∃ x53 : Int,∃ (x53v1 : Option Addr) (x53N x53C : Nat),v4 = (.agg #[(.int .u8 x53),(.slice x53v1 x53N x53C)]) /\
 (CALL PG 43 [(.agg #[(.int .u8 x53),(.slice x53v1 x53N x53C)])] w10 fun v5 w11 =>
 ∃ x54 : Int,∃ x54v1 : Bool,∃ x54v2 : Int,∃ x54v3 : Bool,v5 = (.tuple #[(.agg #[(.int .u64 x54),(.bool x54v1),(.int .u64 x54v2)]),(.bool x54v3)]) /\
 (RUNA PG (Instr.alloc 128 true (.tuple #[])) w11 fun a11 w12 =>
 RUNU PG (storeVar 128 a11 (.agg #[(.int .u64 x54),(.bool x54v1),(.int .u64 x54v2)])) w12 fun w13 =>
 LETB x54v3 fun isv =>
 ∃ R1 : Bool -> World -> Prop,
 (IFB okv
 (IFB isv
 (RDB PG (loadVar 4 (a11.add 1)) w13 fun x63 =>
 IFB (!x63)
 (RDI PG (loadVar 5 (a5.add 4)) .u8 w13 fun x68 =>
 IFB (x68 == 1)
 (RDI PG (loadVar 3 (a3.add 1)) .i64 w13 fun x73 =>
 R1 (x73 == 0) w13)
 (R1 false w13))
 (R1 false w13))
 (R1 false w13))
 (R1 false w13)) /\
 (∀ (x75 : Bool) (w14 : World),R1 x75 w14 -> (IFB x75
 (NILC t fun a78 =>
 RD PG (loadVar 24 (a78.add 2)) (w14.drew) fun v6 =>
 ∃ x80 : Int,∃ x80v1 : Int,∃ x80v2 : Int,∃ x80v3 : Int,∃ x80v4 : Int,∃ x80v5 : Int,∃ x80v6 : Int,∃ x80v7 : Int,∃ x80v8 : Int,∃ x80v9 : Int,∃ x80v10 : Int,∃ x80v11 : Int,∃ x80v12 : Int,∃ x80v13 : Int,∃ x80v14 : Int,v6 = (.agg #[(.int .i64 x80),(.int .i64 x80v1),(.int .i64 x80v2),(.int .i64 x80v3),(.int .i64 x80v4),(.int .i64 x80v5),(.int .i64 x80v6),(.int .i64 x80v7),(.int .i64 x80v8),(.int .i64 x80v9),(.int .i64 x80v10),(.int .i64 x80v11),(.int .i64 x80v12),(.int .i64 x80v13),(.int .i64 x80v14)]) /\
 (NILC t fun a82 =>
 RDI PG (loadVar 25 ((a82.add 17).add 1)) .u64 (w14.drew) fun x85 =>
 RD PG (loadVar 51 a8) (w14.drew) fun v7 =>
 ∃ x86 : Int,∃ x86v1 : Int,∃ x86v2 : Int,v7 = (.agg #[(.int .i64 x86),(.int .u16 x86v1),(.int .u16 x86v2)]) /\
 (NILC t fun a88 =>
 RDI PG (loadVar 26 ((a88.add 17).add 3)) .u32 (w14.drew) fun x91 =>
 RD PG (loadVar 118 a5) (w14.drew) fun v8 =>
 ∃ x92 : Int,∃ x92v1 : Int,∃ x92v2 : Int,∃ x92v3 : Int,∃ x92v4 : Int,∃ (x92v5 : Option Addr) (x92N x92C : Nat),∃ (x92v6 : Option Addr) (x92N1 x92C1 : Nat),v8 = (.agg #[(.int .u16 x92),(.int .u16 x92v1),(.int .u32 x92v2),(.int .u32 x92v3),(.int .u8 x92v4),(.slice x92v5 x92N x92C),(.slice x92v6 x92N1 x92C1)]) /\
 (RDI PG (loadVar 25 (a11.add 0)) .u64 (w14.drew) fun x94 =>
 CALL PG 44 [(.agg #[(.int .i64 x80),(.int .i64 x80v1),(.int .i64 x80v2),(.int .i64 x80v3),(.int .i64 x80v4),(.int .i64 x80v5),(.int .i64 x80v6),(.int .i64 x80v7),(.int .i64 x80v8),(.int .i64 x80v9),(.int .i64 x80v10),(.int .i64 x80v11),(.int .i64 x80v12),(.int .i64 x80v13),(.int .i64 x80v14)]),(.int .u64 x85),(.agg #[(.int .i64 x86),(.int .u16 x86v1),(.int .u16 x86v2)]),(.int .u32 x91),(.agg #[(.int .u16 x92),(.int .u16 x92v1),(.int .u32 x92v2),(.int .u32 x92v3),(.int .u8 x92v4),(.slice x92v5 x92N x92C),(.slice x92v6 x92N1 x92C1)]),(.int .u64 x94)] (w14.drew) fun v9 w15 =>
 ∃ x95 : Option Addr,v9 = (.pointer x95) /\
 (NILC t fun a96 =>
 RUNU PG (storeVar 34 (a96.add 1) (.pointer x95)) w15 fun w16 =>
 CALL PG 15 [(.pointer t)] w16 fun v10 w17 =>
 v10 = (.tuple #[]) /\
 (Q (.int .i64 0) w17))))))
 (Q (.int .i64 0) w14))))))))
 (RD PG (loadVar 51 a8) w7 fun v11 =>
 ∃ x101 : Int,∃ x101v1 : Int,∃ x101v2 : Int,v11 = (.agg #[(.int .i64 x101),(.int .u16 x101v1),(.int .u16 x101v2)]) /\
 (CALL PG 45 [(.pointer x),(.agg #[(.int .i64 x101),(.int .u16 x101v1),(.int .u16 x101v2)])] w7 fun v12 w18 =>
 ∃ x102 : Option Addr,v12 = (.pointer x102) /\
 (IFB (!x102.isNone)
 (RD PG (loadVar 118 a5) w18 fun v13 =>
 ∃ x107 : Int,∃ x107v1 : Int,∃ x107v2 : Int,∃ x107v3 : Int,∃ x107v4 : Int,∃ (x107v5 : Option Addr) (x107N x107C : Nat),∃ (x107v6 : Option Addr) (x107N1 x107C1 : Nat),v13 = (.agg #[(.int .u16 x107),(.int .u16 x107v1),(.int .u32 x107v2),(.int .u32 x107v3),(.int .u8 x107v4),(.slice x107v5 x107N x107C),(.slice x107v6 x107N1 x107C1)]) /\
 (CALL PG 46 [(.pointer x),(.pointer x102),(.agg #[(.int .u16 x107),(.int .u16 x107v1),(.int .u32 x107v2),(.int .u32 x107v3),(.int .u8 x107v4),(.slice x107v5 x107N x107C),(.slice x107v6 x107N1 x107C1)])] w18 fun v14 w19 =>
 ∃ x108 : Int,v14 = (.int .i64 x108) /\
 (LETI x108 fun fate =>
 CALL PG 15 [(.pointer t)] w19 fun v15 w20 =>
 v15 = (.tuple #[]) /\
 (LETI fate fun x4 =>
 Q (.int .i64 x4) w20))))
 (RD PG (loadVar 118 a5) w18 fun v16 =>
 ∃ x110 : Int,∃ x110v1 : Int,∃ x110v2 : Int,∃ x110v3 : Int,∃ x110v4 : Int,∃ (x110v5 : Option Addr) (x110N x110C : Nat),∃ (x110v6 : Option Addr) (x110N1 x110C1 : Nat),v16 = (.agg #[(.int .u16 x110),(.int .u16 x110v1),(.int .u32 x110v2),(.int .u32 x110v3),(.int .u8 x110v4),(.slice x110v5 x110N x110C),(.slice x110v6 x110N1 x110C1)]) /\
 (CALL PG 42 [(.agg #[(.int .u16 x110),(.int .u16 x110v1),(.int .u32 x110v2),(.int .u32 x110v3),(.int .u8 x110v4),(.slice x110v5 x110N x110C),(.slice x110v6 x110N1 x110C1)]),(.int .u8 2)] w18 fun v17 w21 =>
 ∃ x111 : Int,∃ (x111v1 : Option Addr) (x111N x111C : Nat),∃ x111v2 : Bool,v17 = (.tuple #[(.agg #[(.int .u8 x111),(.slice x111v1 x111N x111C)]),(.bool x111v2)]) /\
 (RUNA PG (Instr.alloc 122 true (.tuple #[])) w21 fun a15 w22 =>
 RUNU PG (storeVar 122 a15 (.agg #[(.int .u8 x111),(.slice x111v1 x111N x111C)])) w22 fun w23 =>
 LETB x111v2 fun okv1 =>
 ∃ R2 : Bool -> World -> Prop,
 (IFB okv1
 (RDI PG (loadVar 3 (a3.add 0)) .i64 (w23.drew) fun x117 =>
 IFB (x117 == 1)
 (RDI PG (loadVar 5 (a5.add 4)) .u8 (w23.drew) fun x122 =>
 IFB (x122 == 1)
 (RDI PG (loadVar 3 (a3.add 1)) .i64 (w23.drew) fun x127 =>
 IFB (decide (x127 ≥ 0))
 (RDI PG (loadVar 3 (a3.add 1)) .i64 (w23.drew) fun x132 =>
 NILC t fun a134 =>
 RDI PG (loadVar 3 ((a134.add 2).add 7)) .i64 (w23.drew) fun x137 =>
 R2 (decide (x132 < x137)) (w23.drew))
 (R2 false (w23.drew)))
 (R2 false (w23.drew)))
 (R2 false (w23.drew)))
 (R2 false (w23.drew))) /\
 (∀ (x139 : Bool) (w24 : World),R2 x139 w24 -> (IFB x139
 (RD PG (loadVar 122 a15) w24 fun v18 =>
 ∃ x141 : Int,∃ (x141v1 : Option Addr) (x141N x141C : Nat),v18 = (.agg #[(.int .u8 x141),(.slice x141v1 x141N x141C)]) /\
 (CALL PG 47 [(.agg #[(.int .u8 x141),(.slice x141v1 x141N x141C)])] w24 fun v19 w25 =>
 ∃ x142 : Int,∃ x142v1 : Int,∃ x142v2 : Int,∃ x142v3 : Bool,∃ x142v4 : Bool,∃ x142v5 : Int,∃ x142v6 : Bool,v19 = (.tuple #[(.agg #[(.int .u32 x142),(.int .u32 x142v1),(.int .u8 x142v2),(.bool x142v3),(.bool x142v4),(.int .u64 x142v5)]),(.bool x142v6)]) /\
 (RUNA PG (Instr.alloc 135 true (.tuple #[])) w25 fun a17 w26 =>
 RUNU PG (storeVar 135 a17 (.agg #[(.int .u32 x142),(.int .u32 x142v1),(.int .u8 x142v2),(.bool x142v3),(.bool x142v4),(.int .u64 x142v5)])) w26 fun w27 =>
 LETB x142v6 fun isv1 =>
 IFB isv1
 (RDB PG (loadVar 4 (a17.add 4)) (w27.drew) fun x148 =>
 IFB (!x148)
 (RDI PG (loadVar 26 (a17.add 0)) .u32 (w27.drew) fun x153 =>
 NILC x fun a155 =>
 RDI PG (loadVar 26 ((a155.add 0).add 8)) .u32 (w27.drew) fun x158 =>
 IFB (x153 == x158)
 (RD PG (loadVar 51 a8) ((w27.drew).drew) fun v20 =>
 ∃ x162 : Int,∃ x162v1 : Int,∃ x162v2 : Int,v20 = (.agg #[(.int .i64 x162),(.int .u16 x162v1),(.int .u16 x162v2)]) /\
 (RD PG (loadVar 118 a5) ((w27.drew).drew) fun v21 =>
 ∃ x163 : Int,∃ x163v1 : Int,∃ x163v2 : Int,∃ x163v3 : Int,∃ x163v4 : Int,∃ (x163v5 : Option Addr) (x163N x163C : Nat),∃ (x163v6 : Option Addr) (x163N1 x163C1 : Nat),v21 = (.agg #[(.int .u16 x163),(.int .u16 x163v1),(.int .u32 x163v2),(.int .u32 x163v3),(.int .u8 x163v4),(.slice x163v5 x163N x163C),(.slice x163v6 x163N1 x163C1)]) /\
 (RD PG (loadVar 135 a17) ((w27.drew).drew) fun v22 =>
 ∃ x164 : Int,∃ x164v1 : Int,∃ x164v2 : Int,∃ x164v3 : Bool,∃ x164v4 : Bool,∃ x164v5 : Int,v22 = (.agg #[(.int .u32 x164),(.int .u32 x164v1),(.int .u8 x164v2),(.bool x164v3),(.bool x164v4),(.int .u64 x164v5)]) /\
 (NILC t fun a166 =>
 RDP PG (loadVar 35 (a166.add 23)) ((w27.drew).drew) fun x168 =>
 CALL PG 48 [(.pointer x),(.agg #[(.int .i64 x162),(.int .u16 x162v1),(.int .u16 x162v2)]),(.agg #[(.int .u16 x163),(.int .u16 x163v1),(.int .u32 x163v2),(.int .u32 x163v3),(.int .u8 x163v4),(.slice x163v5 x163N x163C),(.slice x163v6 x163N1 x163C1)]),(.agg #[(.int .u32 x164),(.int .u32 x164v1),(.int .u8 x164v2),(.bool x164v3),(.bool x164v4),(.int .u64 x164v5)]),(.pointer x168)] ((w27.drew).drew) fun v23 w28 =>
 ∃ x169 : Bool,v23 = (.bool x169) /\
 (CALL PG 15 [(.pointer t)] w28 fun v24 w29 =>
 v24 = (.tuple #[]) /\
 (LETI 0 fun x4v1 =>
 Q (.int .i64 x4v1) w29))))))
 (CALL PG 15 [(.pointer t)] (w27.drew) fun v25 w30 =>
 v25 = (.tuple #[]) /\
 (LETI 0 fun x4v2 =>
 Q (.int .i64 x4v2) w30)))
 (CALL PG 15 [(.pointer t)] (w27.drew) fun v26 w31 =>
 v26 = (.tuple #[]) /\
 (LETI 0 fun x4v3 =>
 Q (.int .i64 x4v3) w31)))
 (CALL PG 15 [(.pointer t)] (w27.drew) fun v27 w32 =>
 v27 = (.tuple #[]) /\
 (LETI 0 fun x4v4 =>
 Q (.int .i64 x4v4) w32)))))
 (CALL PG 15 [(.pointer t)] w24 fun v28 w33 =>
 v28 = (.tuple #[]) /\
 (LETI 0 fun x4v5 =>
 Q (.int .i64 x4v5) w33)))))))))))))))
theorem call18 {t : Option Addr} {f : Int} {f1 : Int} {f2 : Option Addr} {fN fC : Nat} {w : World} {Q : QP} (h_ : N18 t f f1 f2 fN fC w Q) : CALL PG 18 [(.pointer t),(.agg #[(.int .i64 f),(.int .i64 f1),(.slice f2 fN fC)])] w Q:=calls_vq (.s .nil (.s .nil (.s .nil (.s .nil (.cut [(7,34)] .nil (.s .nil (.s (.s .nil (.c (.s .nil (.s .nil (.s (.cut [(75,4)] .nil .nil) .nil))) .nil)) (.s .nil (.s (.s .nil (.s .nil (.c .nil (.s .nil (.cut [(139,4)] .nil .nil))))) .nil))))))))) tabOk Tryz.func18 (by kernel_rfl) h_
end Go.Br
