/- What the code of some functions says, as the core reads it; each reading is checked by the kernel. -/
import Derived.Test.YtegocoicdcpgaaaBrSeat
set_option linter.unusedVariables false
set_option maxRecDepth 100000
namespace Go.Br
open Go Go.Proofs

/-- brougham/broughamlaw16.do -/
def N74 (x : Option Addr) (r : Option Addr) (rN rC : Nat) (o : Int) (o1 : Int) (o2 : Int) (o3 : Bool) (o4 : Int) (o5 : Int) (o6 : Int) (o7 : Int) (o8 : Bool) (o9 : Bool) (o10 : Int) (many : Int) (w : World) (Q : Value → World → Prop) : Prop :=
 RUNA PG (Instr.box 125 (.agg #[(.int .i64 o), (.int .u64 o1), (.int .i64 o2), (.bool o3), (.int .i64 o4), (.int .u32 o5), (.int .i64 o6), (.int .i64 o7), (.bool o8), (.bool o9), (.int .i64 o10)])) w fun a6 w1 =>
 RD PG (loadVar 46 (Addr.add a6 1)) w1 fun v =>
 ∃ x14 : Int, ∃ x14v1 : Int, ∃ x14v2 : Bool, ∃ x14v3 : Int, ∃ x14v4 : Int, ∃ x14v5 : Int, ∃ x14v6 : Int, ∃ x14v7 : Bool, ∃ x14v8 : Bool, v = (.agg #[(.int .u64 x14), (.int .i64 x14v1), (.bool x14v2), (.int .i64 x14v3), (.int .u32 x14v4), (.int .i64 x14v5), (.int .i64 x14v6), (.bool x14v7), (.bool x14v8)]) ∧
 (RUNA PG (Instr.alloc 46 true (.tuple #[])) w1 fun a11 w2 =>
 RUNU PG (storeVar 46 a11 (.agg #[(.int .u64 x14), (.int .i64 x14v1), (.bool x14v2), (.int .i64 x14v3), (.int .u32 x14v4), (.int .i64 x14v5), (.int .i64 x14v6), (.bool x14v7), (.bool x14v8)])) w2 fun w3 =>
 RDI PG (loadVar 3 (Addr.add a6 0)) .i64 w3 fun x16 =>
 NEED ((9 : Int) ≠ 0)
 (NEED ((9 : Int) ≠ 0)
 (LETB ((Int.tmod (IntKind.i64.wrap ((Int.tmod x16 (9 : Int)) + (9 : Int))) (9 : Int)) == (4 : Int)) fun x20 =>
 IFB x20
 (RDI PG (loadVar 40 (Addr.add a11 0)) .u64 w3 fun x25 =>
 CALL PG 112 [(.slice r rN rC), (.int .u64 x25)] w3 fun v1 w4 =>
 ∃ (x26 : Option Addr) (x26N x26C : Nat), ∃ (x26v1 : Option Addr) (x26N1 x26C1 : Nat), v1 = (.tuple #[(.slice x26 x26N x26C), (.slice x26v1 x26N1 x26C1)]) ∧
 (RDI PG (loadVar 40 (Addr.add a11 0)) .u64 w4 fun x32 =>
 CALL PG 33 [(.pointer x), (.int .u64 x32)] w4 fun v2 w5 =>
 ∃ (x33 : Option Addr) (x33N x33C : Nat), v2 = (.slice x33 x33N x33C) ∧
 (CALL PG 79 [(.slice x33 x33N x33C)] w5 fun v3 w6 =>
 ∃ (x34 : Option Addr) (x34N x34C : Nat), v3 = (.slice x34 x34N x34C) ∧
 (CALL PG 78 [(.slice x34 x34N x34C), (.slice x26v1 x26N1 x26C1)] w6 fun v4 w7 =>
 ∃ x36 : Bool, v4 = (.bool x36) ∧
 (LETB x36 fun x9 =>
 Q (.tuple #[(.slice x26 x26N x26C), (.bool x9)]) w7)))))
 (LETB ((Int.tmod (IntKind.i64.wrap ((Int.tmod x16 (9 : Int)) + (9 : Int))) (9 : Int)) == (5 : Int)) fun x37 =>
 IFB x37
 (RDI PG (loadVar 3 (Addr.add a11 3)) .i64 w3 fun x42 =>
 RDI PG (loadVar 44 (Addr.add a11 4)) .u32 w3 fun x44 =>
 CALL PG 113 [(.slice r rN rC), (.int .i64 (1 : Int)), (.int .i64 x42), (.int .u32 x44), (.int .i64 (0 : Int)), (.int .i64 (0 : Int))] w3 fun v5 w8 =>
 ∃ (x45 : Option Addr) (x45N x45C : Nat), ∃ (x45v1 : Option Addr) (x45N1 x45C1 : Nat), v5 = (.tuple #[(.slice x45 x45N x45C), (.slice x45v1 x45N1 x45C1)]) ∧
 (RDI PG (loadVar 3 (Addr.add a11 3)) .i64 w8 fun x51 =>
 RDI PG (loadVar 44 (Addr.add a11 4)) .u32 w8 fun x53 =>
 CALL PG 114 [(.pointer x), (.int .i64 x51), (.int .u32 x53)] w8 fun v6 w9 =>
 ∃ (x54 : Option Addr) (x54N x54C : Nat), v6 = (.slice x54 x54N x54C) ∧
 (CALL PG 79 [(.slice x54 x54N x54C)] w9 fun v7 w10 =>
 ∃ (x55 : Option Addr) (x55N x55C : Nat), v7 = (.slice x55 x55N x55C) ∧
 (CALL PG 78 [(.slice x55 x55N x55C), (.slice x45v1 x45N1 x45C1)] w10 fun v8 w11 =>
 ∃ x57 : Bool, v8 = (.bool x57) ∧
 (LETB x57 fun x9v1 =>
 Q (.tuple #[(.slice x45 x45N x45C), (.bool x9v1)]) w11)))))
 (LETB ((Int.tmod (IntKind.i64.wrap ((Int.tmod x16 (9 : Int)) + (9 : Int))) (9 : Int)) == (6 : Int)) fun x58 =>
 IFB x58
 (RDI PG (loadVar 3 (Addr.add a11 3)) .i64 w3 fun x63 =>
 RDI PG (loadVar 3 (Addr.add a11 5)) .i64 w3 fun x65 =>
 RDI PG (loadVar 3 (Addr.add a6 10)) .i64 w3 fun x67 =>
 CALL PG 113 [(.slice r rN rC), (.int .i64 (2 : Int)), (.int .i64 x63), (.int .u32 (0 : Int)), (.int .i64 x65), (.int .i64 x67)] w3 fun v9 w12 =>
 ∃ (x68 : Option Addr) (x68N x68C : Nat), ∃ (x68v1 : Option Addr) (x68N1 x68C1 : Nat), v9 = (.tuple #[(.slice x68 x68N x68C), (.slice x68v1 x68N1 x68C1)]) ∧
 (RDI PG (loadVar 3 (Addr.add a11 3)) .i64 w12 fun x74 =>
 RDI PG (loadVar 3 (Addr.add a11 5)) .i64 w12 fun x76 =>
 RDI PG (loadVar 3 (Addr.add a6 10)) .i64 w12 fun x78 =>
 CALL PG 92 [(.pointer x), (.int .i64 x74), (.int .i64 x76), (.int .i64 x78)] w12 fun v10 w13 =>
 ∃ (x79 : Option Addr) (x79N x79C : Nat), v10 = (.slice x79 x79N x79C) ∧
 (CALL PG 79 [(.slice x79 x79N x79C)] w13 fun v11 w14 =>
 ∃ (x80 : Option Addr) (x80N x80C : Nat), v11 = (.slice x80 x80N x80C) ∧
 (CALL PG 78 [(.slice x80 x80N x80C), (.slice x68v1 x68N1 x68C1)] w14 fun v12 w15 =>
 ∃ x82 : Bool, v12 = (.bool x82) ∧
 (LETB x82 fun x9v2 =>
 Q (.tuple #[(.slice x68 x68N x68C), (.bool x9v2)]) w15)))))
 (LETB ((Int.tmod (IntKind.i64.wrap ((Int.tmod x16 (9 : Int)) + (9 : Int))) (9 : Int)) == (7 : Int)) fun x83 =>
 IFB x83
 (RDI PG (loadVar 3 (Addr.add a11 3)) .i64 w3 fun x88 =>
 CALL PG 113 [(.slice r rN rC), (.int .i64 (3 : Int)), (.int .i64 x88), (.int .u32 (0 : Int)), (.int .i64 (0 : Int)), (.int .i64 (0 : Int))] w3 fun v13 w16 =>
 ∃ (x89 : Option Addr) (x89N x89C : Nat), ∃ (x89v1 : Option Addr) (x89N1 x89C1 : Nat), v13 = (.tuple #[(.slice x89 x89N x89C), (.slice x89v1 x89N1 x89C1)]) ∧
 (RDI PG (loadVar 3 (Addr.add a11 3)) .i64 w16 fun x95 =>
 CALL PG 32 [(.pointer x), (.int .i64 x95)] w16 fun v14 w17 =>
 ∃ (x96 : Option Addr) (x96N x96C : Nat), v14 = (.slice x96 x96N x96C) ∧
 (CALL PG 79 [(.slice x96 x96N x96C)] w17 fun v15 w18 =>
 ∃ (x97 : Option Addr) (x97N x97C : Nat), v15 = (.slice x97 x97N x97C) ∧
 (CALL PG 78 [(.slice x97 x97N x97C), (.slice x89v1 x89N1 x89C1)] w18 fun v16 w19 =>
 ∃ x99 : Bool, v16 = (.bool x99) ∧
 (LETB x99 fun x9v3 =>
 Q (.tuple #[(.slice x89 x89N x89C), (.bool x9v3)]) w19)))))
 (LETB ((Int.tmod (IntKind.i64.wrap ((Int.tmod x16 (9 : Int)) + (9 : Int))) (9 : Int)) == (8 : Int)) fun x100 =>
 IFB x100
 (∃ S : World → Prop, S (w3.drew) ∧
 (RDSI PG (loadVar 40 (Addr.add a11 0)) .u64 S fun x105 =>
 RDSB PG (loadVar 4 (Addr.add a11 2)) S fun x107 =>
 RDS PG (loadVar 46 a11) S fun v17 =>
 ∃ x108 : Int, ∃ x108v1 : Int, ∃ x108v2 : Bool, ∃ x108v3 : Int, ∃ x108v4 : Int, ∃ x108v5 : Int, ∃ x108v6 : Int, ∃ x108v7 : Bool, ∃ x108v8 : Bool, v17 = (.agg #[(.int .u64 x108), (.int .i64 x108v1), (.bool x108v2), (.int .i64 x108v3), (.int .u32 x108v4), (.int .i64 x108v5), (.int .i64 x108v6), (.bool x108v7), (.bool x108v8)]) ∧
 (CALL PG 82 [(.agg #[(.int .u64 x108), (.int .i64 x108v1), (.bool x108v2), (.int .i64 x108v3), (.int .u32 x108v4), (.int .i64 x108v5), (.int .i64 x108v6), (.bool x108v7), (.bool x108v8)])] (w3.drew) fun v18 w20 =>
 ∃ x109 : Int, ∃ x109v1 : Int, ∃ x109v2 : Bool, ∃ x109v3 : Int, ∃ x109v4 : Int, ∃ x109v5 : Int, ∃ x109v6 : Int, ∃ x109v7 : Bool, ∃ x109v8 : Bool, v18 = (.agg #[(.int .u64 x109), (.int .i64 x109v1), (.bool x109v2), (.int .i64 x109v3), (.int .u32 x109v4), (.int .i64 x109v5), (.int .i64 x109v6), (.bool x109v7), (.bool x109v8)]) ∧
 (∃ S1 : World → Prop, (∀ x, S1 x → S x) ∧ S1 w20 ∧
 (CALL PG 115 [(.slice r rN rC), (.int .u64 x105), (.bool x107), (.agg #[(.int .u64 x109), (.int .i64 x109v1), (.bool x109v2), (.int .i64 x109v3), (.int .u32 x109v4), (.int .i64 x109v5), (.int .i64 x109v6), (.bool x109v7), (.bool x109v8)])] w20 fun v19 w21 =>
 ∃ (x110 : Option Addr) (x110N x110C : Nat), ∃ x110v1 : Bool, v19 = (.tuple #[(.slice x110 x110N x110C), (.bool x110v1)]) ∧
 (LETB x110v1 fun okv =>
 RDI PG (loadVar 40 (Addr.add a11 0)) .u64 w21 fun x116 =>
 RDB PG (loadVar 4 (Addr.add a11 2)) w21 fun x118 =>
 RDI PG (loadVar 3 (Addr.add a11 3)) .i64 w21 fun x120 =>
 RDI PG (loadVar 44 (Addr.add a11 4)) .u32 w21 fun x122 =>
 RDI PG (loadVar 3 (Addr.add a11 5)) .i64 w21 fun x124 =>
 CALL PG 116 [(.pointer x), (.int .u64 x116), (.bool x118), (.int .i64 x120), (.int .u32 x122), (.int .i64 x124)] w21 fun v20 w22 =>
 ∃ x125 : Bool, v20 = (.bool x125) ∧
 (LETB (x125 == okv) fun x9v4 =>
 Q (.tuple #[(.slice x110 x110N x110C), (.bool x9v4)]) w22)))))))
 (IFB (decide ((rN : Int) ≥ many))
 (RD PG (loadVar 46 a11) w3 fun v21 =>
 ∃ x134 : Int, ∃ x134v1 : Int, ∃ x134v2 : Bool, ∃ x134v3 : Int, ∃ x134v4 : Int, ∃ x134v5 : Int, ∃ x134v6 : Int, ∃ x134v7 : Bool, ∃ x134v8 : Bool, v21 = (.agg #[(.int .u64 x134), (.int .i64 x134v1), (.bool x134v2), (.int .i64 x134v3), (.int .u32 x134v4), (.int .i64 x134v5), (.int .i64 x134v6), (.bool x134v7), (.bool x134v8)]) ∧
 (CALL PG 31 [(.pointer x), (.agg #[(.int .u64 x134), (.int .i64 x134v1), (.bool x134v2), (.int .i64 x134v3), (.int .u32 x134v4), (.int .i64 x134v5), (.int .i64 x134v6), (.bool x134v7), (.bool x134v8)])] w3 fun v22 w23 =>
 ∃ x135 : Bool, v22 = (.bool x135) ∧
 (LETB (!x135) fun x9v5 =>
 Q (.tuple #[(.slice r rN rC), (.bool x9v5)]) w23)))
 (∃ S2 : World → Prop, S2 (w3.drew) ∧
 (RDS PG (loadVar 46 a11) S2 fun v23 =>
 ∃ x140 : Int, ∃ x140v1 : Int, ∃ x140v2 : Bool, ∃ x140v3 : Int, ∃ x140v4 : Int, ∃ x140v5 : Int, ∃ x140v6 : Int, ∃ x140v7 : Bool, ∃ x140v8 : Bool, v23 = (.agg #[(.int .u64 x140), (.int .i64 x140v1), (.bool x140v2), (.int .i64 x140v3), (.int .u32 x140v4), (.int .i64 x140v5), (.int .i64 x140v6), (.bool x140v7), (.bool x140v8)]) ∧
 (RDS PG (loadVar 46 a11) S2 fun v24 =>
 ∃ x145 : Int, ∃ x145v1 : Int, ∃ x145v2 : Bool, ∃ x145v3 : Int, ∃ x145v4 : Int, ∃ x145v5 : Int, ∃ x145v6 : Int, ∃ x145v7 : Bool, ∃ x145v8 : Bool, v24 = (.agg #[(.int .u64 x145), (.int .i64 x145v1), (.bool x145v2), (.int .i64 x145v3), (.int .u32 x145v4), (.int .i64 x145v5), (.int .i64 x145v6), (.bool x145v7), (.bool x145v8)]) ∧
 (RUNL PG (Instr.buildSlice 122 0 #[]) (w3.drew) fun x137 x137N x137C w24 =>
 ∃ S3 : World → Prop, (∀ x, S3 x → S2 x) ∧ S3 w24 ∧
 (RUNL PG (Builtin.append_ #[122, 122] 122 #[(.slice x137 x137N x137C), (.slice r rN rC)]) w24 fun x139 x139N x139C w25 =>
 ∃ S4 : World → Prop, (∀ x, S4 x → S3 x) ∧ S4 w25 ∧
 (CALL PG 82 [(.agg #[(.int .u64 x140), (.int .i64 x140v1), (.bool x140v2), (.int .i64 x140v3), (.int .u32 x140v4), (.int .i64 x140v5), (.int .i64 x140v6), (.bool x140v7), (.bool x140v8)])] w25 fun v25 w26 =>
 ∃ x141 : Int, ∃ x141v1 : Int, ∃ x141v2 : Bool, ∃ x141v3 : Int, ∃ x141v4 : Int, ∃ x141v5 : Int, ∃ x141v6 : Int, ∃ x141v7 : Bool, ∃ x141v8 : Bool, v25 = (.agg #[(.int .u64 x141), (.int .i64 x141v1), (.bool x141v2), (.int .i64 x141v3), (.int .u32 x141v4), (.int .i64 x141v5), (.int .i64 x141v6), (.bool x141v7), (.bool x141v8)]) ∧
 (∃ S5 : World → Prop, (∀ x, S5 x → S4 x) ∧ S5 w26 ∧
 (RUNL PG (Instr.buildSlice 122 1 #[(0, (.agg #[(.int .u64 x141), (.int .i64 x141v1), (.bool x141v2), (.int .i64 x141v3), (.int .u32 x141v4), (.int .i64 x141v5), (.int .i64 x141v6), (.bool x141v7), (.bool x141v8)]))]) w26 fun x142 x142N x142C w27 =>
 ∃ S6 : World → Prop, (∀ x, S6 x → S5 x) ∧ S6 w27 ∧
 (RUNL PG (Builtin.append_ #[122, 122] 122 #[(.slice x139 x139N x139C), (.slice x142 x142N x142C)]) w27 fun x143 x143N x143C w28 =>
 ∃ S7 : World → Prop, (∀ x, S7 x → S6 x) ∧ S7 w28 ∧
 (CALL PG 31 [(.pointer x), (.agg #[(.int .u64 x145), (.int .i64 x145v1), (.bool x145v2), (.int .i64 x145v3), (.int .u32 x145v4), (.int .i64 x145v5), (.int .i64 x145v6), (.bool x145v7), (.bool x145v8)])] w28 fun v26 w29 =>
 ∃ x146 : Bool, v26 = (.bool x146) ∧
 (LETB x146 fun x9v6 =>
 Q (.tuple #[(.slice x143 x143N x143C), (.bool x9v6)]) w29)))))))))))))))))))
theorem eq74 : ∀ (x : Option Addr) (r : Option Addr) (rN rC : Nat) (o : Int) (o1 : Int) (o2 : Int) (o3 : Bool) (o4 : Int) (o5 : Int) (o6 : Int) (o7 : Int) (o8 : Bool) (o9 : Bool) (o10 : Int) (many : Int) (w : World) (Q : Value → World → Prop), vcF PG TB Try.f74 .nil [(.pointer x), (.slice r rN rC), (.agg #[(.int .i64 o), (.int .u64 o1), (.int .i64 o2), (.bool o3), (.int .i64 o4), (.int .u32 o5), (.int .i64 o6), (.int .i64 o7), (.bool o8), (.bool o9), (.int .i64 o10)]), (.int .i64 many)] w Q = N74 x r rN rC o o1 o2 o3 o4 o5 o6 o7 o8 o9 o10 many w Q := by intros; kernel_rfl
theorem call74 {x : Option Addr} {r : Option Addr} {rN rC : Nat} {o : Int} {o1 : Int} {o2 : Int} {o3 : Bool} {o4 : Int} {o5 : Int} {o6 : Int} {o7 : Int} {o8 : Bool} {o9 : Bool} {o10 : Int} {many : Int} {w : World} {Q : Value → World → Prop} (hN : N74 x r rN rC o o1 o2 o3 o4 o5 o6 o7 o8 o9 o10 many w Q) : CALL PG 74 [(.pointer x), (.slice r rN rC), (.agg #[(.int .i64 o), (.int .u64 o1), (.int .i64 o2), (.bool o3), (.int .i64 o4), (.int .u32 o5), (.int .i64 o6), (.int .i64 o7), (.bool o8), (.bool o9), (.int .i64 o10)]), (.int .i64 many)] w Q := calls_vc tabOk Try.func74 (by rw [eq74]; exact hN)

end Go.Br
