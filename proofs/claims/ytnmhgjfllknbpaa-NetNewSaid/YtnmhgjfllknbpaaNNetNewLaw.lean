/- What the code of some functions says, as the core reads it; each reading is checked by the kernel. -/
import Derived.Test.YtnmhgjfllknbpaaBrSeat
set_option linter.unusedVariables false
set_option maxRecDepth 100000
namespace Go.Br
open Go Go.Proofs

/-- brougham/broughamlaw24.NetNew -/
def N3 (c : Int) (c1 : Int) (c2 : Int) (c3 : Int) (c4 : Int) (c5 : Int) (c6 : Int) (c7 : Int) (c8 : Int) (c9 : Int) (c10 : Int) (c11 : Int) (c12 : Int) (c13 : Int) (c14 : Int) (k : Int) (k1 : Int) (k2 : Int) (k3 : Int) (w : World) (Q : Value → World → Prop) : Prop :=
 RUNA PG (Instr.box 24 (.agg #[(.int .i64 c), (.int .i64 c1), (.int .i64 c2), (.int .i64 c3), (.int .i64 c4), (.int .i64 c5), (.int .i64 c6), (.int .i64 c7), (.int .i64 c8), (.int .i64 c9), (.int .i64 c10), (.int .i64 c11), (.int .i64 c12), (.int .i64 c13), (.int .i64 c14)])) w fun a2 w1 =>
 RUNA PG (Instr.box 29 (.agg #[(.int .u64 k), (.int .u64 k1), (.int .u64 k2), (.int .u64 k3)])) w1 fun a3 w2 =>
 RD PG (loadVar 24 a2) w2 fun v =>
 ∃ x8 : Int, ∃ x8v1 : Int, ∃ x8v2 : Int, ∃ x8v3 : Int, ∃ x8v4 : Int, ∃ x8v5 : Int, ∃ x8v6 : Int, ∃ x8v7 : Int, ∃ x8v8 : Int, ∃ x8v9 : Int, ∃ x8v10 : Int, ∃ x8v11 : Int, ∃ x8v12 : Int, ∃ x8v13 : Int, ∃ x8v14 : Int, v = (.agg #[(.int .i64 x8), (.int .i64 x8v1), (.int .i64 x8v2), (.int .i64 x8v3), (.int .i64 x8v4), (.int .i64 x8v5), (.int .i64 x8v6), (.int .i64 x8v7), (.int .i64 x8v8), (.int .i64 x8v9), (.int .i64 x8v10), (.int .i64 x8v11), (.int .i64 x8v12), (.int .i64 x8v13), (.int .i64 x8v14)]) ∧
 (RD PG (loadVar 27 (Addr.add a3 0)) w2 fun v1 =>
 ∃ x10 : Int, ∃ x10v1 : Int, v1 = (.agg #[(.int .u64 x10), (.int .u64 x10v1)]) ∧
 (RD PG (loadVar 27 (Addr.add a3 2)) w2 fun v2 =>
 ∃ x12 : Int, ∃ x12v1 : Int, v2 = (.agg #[(.int .u64 x12), (.int .u64 x12v1)]) ∧
 (CALL PG 4 [(.agg #[(.int .i64 x8), (.int .i64 x8v1), (.int .i64 x8v2), (.int .i64 x8v3), (.int .i64 x8v4), (.int .i64 x8v5), (.int .i64 x8v6), (.int .i64 x8v7), (.int .i64 x8v8), (.int .i64 x8v9), (.int .i64 x8v10), (.int .i64 x8v11), (.int .i64 x8v12), (.int .i64 x8v13), (.int .i64 x8v14)]), (.agg #[(.int .u64 x10), (.int .u64 x10v1)]), (.agg #[(.int .u64 x12), (.int .u64 x12v1)])] w2 fun v3 w3 =>
 ∃ x13 : Option Addr, ∃ x13v1 : Int, v3 = (.tuple #[(.pointer x13), (.int .i64 x13v1)]) ∧
 (LETI x13v1 fun e =>
 RD PG (loadVar 24 a2) w3 fun v4 =>
 ∃ x16 : Int, ∃ x16v1 : Int, ∃ x16v2 : Int, ∃ x16v3 : Int, ∃ x16v4 : Int, ∃ x16v5 : Int, ∃ x16v6 : Int, ∃ x16v7 : Int, ∃ x16v8 : Int, ∃ x16v9 : Int, ∃ x16v10 : Int, ∃ x16v11 : Int, ∃ x16v12 : Int, ∃ x16v13 : Int, ∃ x16v14 : Int, v4 = (.agg #[(.int .i64 x16), (.int .i64 x16v1), (.int .i64 x16v2), (.int .i64 x16v3), (.int .i64 x16v4), (.int .i64 x16v5), (.int .i64 x16v6), (.int .i64 x16v7), (.int .i64 x16v8), (.int .i64 x16v9), (.int .i64 x16v10), (.int .i64 x16v11), (.int .i64 x16v12), (.int .i64 x16v13), (.int .i64 x16v14)]) ∧
 (CALL PG 5 [(.agg #[(.int .i64 x16), (.int .i64 x16v1), (.int .i64 x16v2), (.int .i64 x16v3), (.int .i64 x16v4), (.int .i64 x16v5), (.int .i64 x16v6), (.int .i64 x16v7), (.int .i64 x16v8), (.int .i64 x16v9), (.int .i64 x16v10), (.int .i64 x16v11), (.int .i64 x16v12), (.int .i64 x16v13), (.int .i64 x16v14)])] w3 fun v5 w4 =>
 ∃ x17 : Bool, v5 = (.bool x17) ∧
 (IFB (!x17)
 (IFB (e == (200 : Int))
 (IFB (x13.isNone)
 (CALL PG 6 [] w4 fun v6 w5 =>
 ∃ x26 : Bool, v6 = (.bool x26) ∧
 (LETB x26 fun x4 =>
 Q (.bool x4) w5))
 (LETB false fun x4v1 =>
 Q (.bool x4v1) w4))
 (LETB false fun x4v2 =>
 Q (.bool x4v2) w4))
 (IFB (e == (0 : Int))
 (IFB (!x13.isNone)
 (CALL PG 7 [(.pointer x13), (.int .i64 (0 : Int))] w4 fun v7 w6 =>
 ∃ x36 : Option Addr, v7 = (.pointer x36) ∧
 (IFB (!x36.isNone)
 (CALL PG 7 [(.pointer x13), (.int .i64 (1 : Int))] w6 fun v8 w7 =>
 ∃ x41 : Option Addr, v8 = (.pointer x41) ∧
 (IFB (!x41.isNone)
 (CALL PG 8 [(.pointer x13)] w7 fun v9 w8 =>
 ∃ x46 : Int, v9 = (.int .i64 x46) ∧
 (IFB (x46 == (0 : Int))
 (CALL PG 9 [(.pointer x13)] w8 fun v10 w9 =>
 ∃ (x51 : Option Addr) (x51N x51C : Nat), v10 = (.slice x51 x51N x51C) ∧
 (IFB ((x51N : Int) == (0 : Int))
 (CALL PG 6 [] w9 fun v11 w10 =>
 ∃ x56 : Bool, v11 = (.bool x56) ∧
 (LETB x56 fun x4v3 =>
 Q (.bool x4v3) w10))
 (LETB false fun x4v4 =>
 Q (.bool x4v4) w9)))
 (LETB false fun x4v5 =>
 Q (.bool x4v5) w8)))
 (LETB false fun x4v6 =>
 Q (.bool x4v6) w7)))
 (LETB false fun x4v7 =>
 Q (.bool x4v7) w6)))
 (LETB false fun x4v8 =>
 Q (.bool x4v8) w4))
 (LETB false fun x4v9 =>
 Q (.bool x4v9) w4))))))))
theorem eq3 : ∀ (c : Int) (c1 : Int) (c2 : Int) (c3 : Int) (c4 : Int) (c5 : Int) (c6 : Int) (c7 : Int) (c8 : Int) (c9 : Int) (c10 : Int) (c11 : Int) (c12 : Int) (c13 : Int) (c14 : Int) (k : Int) (k1 : Int) (k2 : Int) (k3 : Int) (w : World) (Q : Value → World → Prop), vcF PG TB Try.f3 .nil [(.agg #[(.int .i64 c), (.int .i64 c1), (.int .i64 c2), (.int .i64 c3), (.int .i64 c4), (.int .i64 c5), (.int .i64 c6), (.int .i64 c7), (.int .i64 c8), (.int .i64 c9), (.int .i64 c10), (.int .i64 c11), (.int .i64 c12), (.int .i64 c13), (.int .i64 c14)]), (.agg #[(.int .u64 k), (.int .u64 k1), (.int .u64 k2), (.int .u64 k3)])] w Q = N3 c c1 c2 c3 c4 c5 c6 c7 c8 c9 c10 c11 c12 c13 c14 k k1 k2 k3 w Q := by intros; kernel_rfl
theorem call3 {c : Int} {c1 : Int} {c2 : Int} {c3 : Int} {c4 : Int} {c5 : Int} {c6 : Int} {c7 : Int} {c8 : Int} {c9 : Int} {c10 : Int} {c11 : Int} {c12 : Int} {c13 : Int} {c14 : Int} {k : Int} {k1 : Int} {k2 : Int} {k3 : Int} {w : World} {Q : Value → World → Prop} (hN : N3 c c1 c2 c3 c4 c5 c6 c7 c8 c9 c10 c11 c12 c13 c14 k k1 k2 k3 w Q) : CALL PG 3 [(.agg #[(.int .i64 c), (.int .i64 c1), (.int .i64 c2), (.int .i64 c3), (.int .i64 c4), (.int .i64 c5), (.int .i64 c6), (.int .i64 c7), (.int .i64 c8), (.int .i64 c9), (.int .i64 c10), (.int .i64 c11), (.int .i64 c12), (.int .i64 c13), (.int .i64 c14)]), (.agg #[(.int .u64 k), (.int .u64 k1), (.int .u64 k2), (.int .u64 k3)])] w Q := calls_vc tabOk Try.func3 (by rw [eq3]; exact hN)

/-- brougham/net.New -/
def N4 (c : Int) (c1 : Int) (c2 : Int) (c3 : Int) (c4 : Int) (c5 : Int) (c6 : Int) (c7 : Int) (c8 : Int) (c9 : Int) (c10 : Int) (c11 : Int) (c12 : Int) (c13 : Int) (c14 : Int) (a : Int) (a1 : Int) (b : Int) (b1 : Int) (w : World) (Q : Value → World → Prop) : Prop :=
 RUNA PG (Instr.box 24 (.agg #[(.int .i64 c), (.int .i64 c1), (.int .i64 c2), (.int .i64 c3), (.int .i64 c4), (.int .i64 c5), (.int .i64 c6), (.int .i64 c7), (.int .i64 c8), (.int .i64 c9), (.int .i64 c10), (.int .i64 c11), (.int .i64 c12), (.int .i64 c13), (.int .i64 c14)])) w fun a3 w1 =>
 RUNA PG (Instr.box 27 (.agg #[(.int .u64 a), (.int .u64 a1)])) w1 fun a4 w2 =>
 RUNA PG (Instr.box 27 (.agg #[(.int .u64 b), (.int .u64 b1)])) w2 fun a5 w3 =>
 RD PG (loadVar 24 a3) w3 fun v =>
 ∃ x12 : Int, ∃ x12v1 : Int, ∃ x12v2 : Int, ∃ x12v3 : Int, ∃ x12v4 : Int, ∃ x12v5 : Int, ∃ x12v6 : Int, ∃ x12v7 : Int, ∃ x12v8 : Int, ∃ x12v9 : Int, ∃ x12v10 : Int, ∃ x12v11 : Int, ∃ x12v12 : Int, ∃ x12v13 : Int, ∃ x12v14 : Int, v = (.agg #[(.int .i64 x12), (.int .i64 x12v1), (.int .i64 x12v2), (.int .i64 x12v3), (.int .i64 x12v4), (.int .i64 x12v5), (.int .i64 x12v6), (.int .i64 x12v7), (.int .i64 x12v8), (.int .i64 x12v9), (.int .i64 x12v10), (.int .i64 x12v11), (.int .i64 x12v12), (.int .i64 x12v13), (.int .i64 x12v14)]) ∧
 (RD PG (loadVar 27 a4) w3 fun v1 =>
 ∃ x13 : Int, ∃ x13v1 : Int, v1 = (.agg #[(.int .u64 x13), (.int .u64 x13v1)]) ∧
 (CALL PG 10 [(.agg #[(.int .i64 x12), (.int .i64 x12v1), (.int .i64 x12v2), (.int .i64 x12v3), (.int .i64 x12v4), (.int .i64 x12v5), (.int .i64 x12v6), (.int .i64 x12v7), (.int .i64 x12v8), (.int .i64 x12v9), (.int .i64 x12v10), (.int .i64 x12v11), (.int .i64 x12v12), (.int .i64 x12v13), (.int .i64 x12v14)]), (.agg #[(.int .u64 x13), (.int .u64 x13v1)])] w3 fun v2 w4 =>
 ∃ x14 : Option Addr, ∃ x14v1 : Int, v2 = (.tuple #[(.pointer x14), (.int .i64 x14v1)]) ∧
 (LETI x14v1 fun e =>
 IFB (e != (0 : Int))
 (LETI e fun x7 =>
 Q (.tuple #[(.pointer none), (.int .i64 x7)]) w4)
 (RD PG (loadVar 24 a3) w4 fun v3 =>
 ∃ x21 : Int, ∃ x21v1 : Int, ∃ x21v2 : Int, ∃ x21v3 : Int, ∃ x21v4 : Int, ∃ x21v5 : Int, ∃ x21v6 : Int, ∃ x21v7 : Int, ∃ x21v8 : Int, ∃ x21v9 : Int, ∃ x21v10 : Int, ∃ x21v11 : Int, ∃ x21v12 : Int, ∃ x21v13 : Int, ∃ x21v14 : Int, v3 = (.agg #[(.int .i64 x21), (.int .i64 x21v1), (.int .i64 x21v2), (.int .i64 x21v3), (.int .i64 x21v4), (.int .i64 x21v5), (.int .i64 x21v6), (.int .i64 x21v7), (.int .i64 x21v8), (.int .i64 x21v9), (.int .i64 x21v10), (.int .i64 x21v11), (.int .i64 x21v12), (.int .i64 x21v13), (.int .i64 x21v14)]) ∧
 (RD PG (loadVar 27 a5) w4 fun v4 =>
 ∃ x22 : Int, ∃ x22v1 : Int, v4 = (.agg #[(.int .u64 x22), (.int .u64 x22v1)]) ∧
 (CALL PG 10 [(.agg #[(.int .i64 x21), (.int .i64 x21v1), (.int .i64 x21v2), (.int .i64 x21v3), (.int .i64 x21v4), (.int .i64 x21v5), (.int .i64 x21v6), (.int .i64 x21v7), (.int .i64 x21v8), (.int .i64 x21v9), (.int .i64 x21v10), (.int .i64 x21v11), (.int .i64 x21v12), (.int .i64 x21v13), (.int .i64 x21v14)]), (.agg #[(.int .u64 x22), (.int .u64 x22v1)])] w4 fun v5 w5 =>
 ∃ x23 : Option Addr, ∃ x23v1 : Int, v5 = (.tuple #[(.pointer x23), (.int .i64 x23v1)]) ∧
 (LETI x23v1 fun e1 =>
 IFB (e1 != (0 : Int))
 (LETI e1 fun x7v1 =>
 Q (.tuple #[(.pointer none), (.int .i64 x7v1)]) w5)
 (RD PG (Instr.build 44 #[(0, (.pointer x14)), (1, (.pointer x23))]) w5 fun v6 =>
 ∃ x31 : Value, v6 = x31 ∧
 (RD PG (Instr.build 46 #[(0, x31)]) w5 fun v7 =>
 ∃ x32 : Value, v7 = x32 ∧
 (RUNA PG (Instr.box 46 x32) w5 fun a33 w6 =>
 Q (.tuple #[(.pointer (some a33)), (.int .i64 (0 : Int))]) w6))))))))))
theorem eq4 : ∀ (c : Int) (c1 : Int) (c2 : Int) (c3 : Int) (c4 : Int) (c5 : Int) (c6 : Int) (c7 : Int) (c8 : Int) (c9 : Int) (c10 : Int) (c11 : Int) (c12 : Int) (c13 : Int) (c14 : Int) (a : Int) (a1 : Int) (b : Int) (b1 : Int) (w : World) (Q : Value → World → Prop), vcF PG TB Try.f4 .nil [(.agg #[(.int .i64 c), (.int .i64 c1), (.int .i64 c2), (.int .i64 c3), (.int .i64 c4), (.int .i64 c5), (.int .i64 c6), (.int .i64 c7), (.int .i64 c8), (.int .i64 c9), (.int .i64 c10), (.int .i64 c11), (.int .i64 c12), (.int .i64 c13), (.int .i64 c14)]), (.agg #[(.int .u64 a), (.int .u64 a1)]), (.agg #[(.int .u64 b), (.int .u64 b1)])] w Q = N4 c c1 c2 c3 c4 c5 c6 c7 c8 c9 c10 c11 c12 c13 c14 a a1 b b1 w Q := by intros; kernel_rfl
theorem call4 {c : Int} {c1 : Int} {c2 : Int} {c3 : Int} {c4 : Int} {c5 : Int} {c6 : Int} {c7 : Int} {c8 : Int} {c9 : Int} {c10 : Int} {c11 : Int} {c12 : Int} {c13 : Int} {c14 : Int} {a : Int} {a1 : Int} {b : Int} {b1 : Int} {w : World} {Q : Value → World → Prop} (hN : N4 c c1 c2 c3 c4 c5 c6 c7 c8 c9 c10 c11 c12 c13 c14 a a1 b b1 w Q) : CALL PG 4 [(.agg #[(.int .i64 c), (.int .i64 c1), (.int .i64 c2), (.int .i64 c3), (.int .i64 c4), (.int .i64 c5), (.int .i64 c6), (.int .i64 c7), (.int .i64 c8), (.int .i64 c9), (.int .i64 c10), (.int .i64 c11), (.int .i64 c12), (.int .i64 c13), (.int .i64 c14)]), (.agg #[(.int .u64 a), (.int .u64 a1)]), (.agg #[(.int .u64 b), (.int .u64 b1)])] w Q := calls_vc tabOk Try.func4 (by rw [eq4]; exact hN)

/-- brougham/broughamlaw24.alive -/
def N6  (w : World) (Q : Value → World → Prop) : Prop :=
 CALL PG 12 [] w fun v w1 =>
 ∃ x7 : Int, ∃ x7v1 : Int, ∃ x7v2 : Int, ∃ x7v3 : Int, ∃ x7v4 : Int, ∃ x7v5 : Int, ∃ x7v6 : Int, ∃ x7v7 : Int, ∃ x7v8 : Int, ∃ x7v9 : Int, ∃ x7v10 : Int, ∃ x7v11 : Int, ∃ x7v12 : Int, ∃ x7v13 : Int, ∃ x7v14 : Int, v = (.agg #[(.int .i64 x7), (.int .i64 x7v1), (.int .i64 x7v2), (.int .i64 x7v3), (.int .i64 x7v4), (.int .i64 x7v5), (.int .i64 x7v6), (.int .i64 x7v7), (.int .i64 x7v8), (.int .i64 x7v9), (.int .i64 x7v10), (.int .i64 x7v11), (.int .i64 x7v12), (.int .i64 x7v13), (.int .i64 x7v14)]) ∧
 (RD PG (Instr.build 27 #[(0, (.int .u64 (1 : Int)))]) w1 fun v1 =>
 ∃ x8 : Int, ∃ x8v1 : Int, v1 = (.agg #[(.int .u64 x8), (.int .u64 x8v1)]) ∧
 (RD PG (Instr.build 27 #[(0, (.int .u64 (2 : Int)))]) w1 fun v2 =>
 ∃ x9 : Int, ∃ x9v1 : Int, v2 = (.agg #[(.int .u64 x9), (.int .u64 x9v1)]) ∧
 (CALL PG 4 [(.agg #[(.int .i64 x7), (.int .i64 x7v1), (.int .i64 x7v2), (.int .i64 x7v3), (.int .i64 x7v4), (.int .i64 x7v5), (.int .i64 x7v6), (.int .i64 x7v7), (.int .i64 x7v8), (.int .i64 x7v9), (.int .i64 x7v10), (.int .i64 x7v11), (.int .i64 x7v12), (.int .i64 x7v13), (.int .i64 x7v14)]), (.agg #[(.int .u64 x8), (.int .u64 x8v1)]), (.agg #[(.int .u64 x9), (.int .u64 x9v1)])] w1 fun v3 w2 =>
 ∃ x10 : Option Addr, ∃ x10v1 : Int, v3 = (.tuple #[(.pointer x10), (.int .i64 x10v1)]) ∧
 (LETI x10v1 fun e =>
 IFB (e != (0 : Int))
 (Q (.bool false) w2)
 (IFB (x10.isNone)
 (Q (.bool false) w2)
 (CALL PG 7 [(.pointer x10), (.int .i64 (0 : Int))] w2 fun v4 w3 =>
 ∃ x21 : Option Addr, v4 = (.pointer x21) ∧
 (IFB (x21.isNone)
 (Q (.bool false) w3)
 (CALL PG 7 [(.pointer x10), (.int .i64 (1 : Int))] w3 fun v5 w4 =>
 ∃ x26 : Option Addr, v5 = (.pointer x26) ∧
 (IFB (x26.isNone)
 (Q (.bool false) w4)
 (CALL PG 7 [(.pointer x10), (.int .i64 (1 : Int))] w4 fun v6 w5 =>
 ∃ x30 : Option Addr, v6 = (.pointer x30) ∧
 (CALL PG 13 [(.pointer x30), (.int .i64 (80 : Int))] w5 fun v7 w6 =>
 ∃ x31 : Int, v7 = (.int .i64 x31) ∧
 (LETI x31 fun f =>
 CALL PG 7 [(.pointer x10), (.int .i64 (0 : Int))] w6 fun v8 w7 =>
 ∃ x34 : Option Addr, v8 = (.pointer x34) ∧
 (CALL PG 14 [(.pointer x34), (.int .i64 (5 : Int)), (.int .i64 (80 : Int)), (.int .i64 (0 : Int))] w7 fun v9 w8 =>
 ∃ x35 : Int, ∃ x35v1 : Int, v9 = (.tuple #[(.int .i64 x35), (.int .i64 x35v1)]) ∧
 (LETI x35 fun h =>
 LETI x35v1 fun g =>
 CALL PG 15 [(.pointer x10)] w8 fun v10 w9 =>
 v10 = (.tuple #[]) ∧
 (IFB (f == (0 : Int))
 (IFB (h == (1 : Int))
 (IFB (g == (0 : Int))
 (CALL PG 8 [(.pointer x10)] w9 fun v11 w10 =>
 ∃ x52 : Int, v11 = (.int .i64 x52) ∧
 (IFB (x52 == (1 : Int))
 (CALL PG 16 [(.pointer x10)] w10 fun v12 w11 =>
 ∃ x57 : Int, v12 = (.int .i64 x57) ∧
 (IFB (x57 == (1 : Int))
 (CALL PG 17 [(.pointer x10)] w11 fun v13 w12 =>
 ∃ x62 : Int, v13 = (.int .i64 x62) ∧
 (LETB (x62 == (0 : Int)) fun x0 =>
 Q (.bool x0) w12))
 (LETB false fun x0v1 =>
 Q (.bool x0v1) w11)))
 (LETB false fun x0v2 =>
 Q (.bool x0v2) w10)))
 (LETB false fun x0v3 =>
 Q (.bool x0v3) w9))
 (LETB false fun x0v4 =>
 Q (.bool x0v4) w9))
 (LETB false fun x0v5 =>
 Q (.bool x0v5) w9))))))))))))))))
theorem eq6 : ∀  (w : World) (Q : Value → World → Prop), vcF PG TB Try.f6 .nil [] w Q = N6  w Q := by intros; kernel_rfl
theorem call6  {w : World} {Q : Value → World → Prop} (hN : N6  w Q) : CALL PG 6 [] w Q := calls_vc tabOk Try.func6 (by rw [eq6]; exact hN)

/-- (*brougham/net.Net).Ledger -/
def N9 (n : Option Addr) (w : World) (Q : Value → World → Prop) : Prop :=
 NILC n fun a4 =>
 RDL PG (loadVar 39 (Addr.add a4 3)) w fun x6 x6N x6C =>
 CALL PG 18 [(.slice x6 x6N x6C)] w fun v w1 =>
 ∃ (x7 : Option Addr) (x7N x7C : Nat), v = (.slice x7 x7N x7C) ∧
 (Q (.slice x7 x7N x7C) w1)
theorem eq9 : ∀ (n : Option Addr) (w : World) (Q : Value → World → Prop), vcF PG TB Try.f9 .nil [(.pointer n)] w Q = N9 n w Q := by intros; kernel_rfl
theorem call9 {n : Option Addr} {w : World} {Q : Value → World → Prop} (hN : N9 n w Q) : CALL PG 9 [(.pointer n)] w Q := calls_vc tabOk Try.func9 (by rw [eq9]; exact hN)

/-- (*brougham/host.Host).Listen -/
def N13 (h : Option Addr) (atv : Int) (w : World) (Q : Value → World → Prop) : Prop :=
 CALL PG 20 [(.int .i64 atv)] w fun v w1 =>
 ∃ x7 : Bool, v = (.bool x7) ∧
 (LETB (!x7) fun x5 =>
 IFB x5
 (Q (.int .i64 (202 : Int)) w1)
 (CALL PG 21 [(.pointer h), (.int .i64 atv)] w1 fun v1 w2 =>
 ∃ x12 : Option Addr, v1 = (.pointer x12) ∧
 (LETB (!x12.isNone) fun x9 =>
 IFB x9
 (Q (.int .i64 (202 : Int)) w2)
 (NILC h fun a16 =>
 RDL PG (loadVar 59 (Addr.add a16 28)) (w2.drew) fun x18 x18N x18C =>
 NILC h fun a21 =>
 RDI PG (loadVar 3 (Addr.add (Addr.add a21 10) 0)) .i64 (w2.drew) fun x24 =>
 LETB (decide ((x18N : Int) ≥ x24)) fun x14 =>
 IFB x14
 (Q (.int .i64 (203 : Int)) (w2.drew))
 (NILC h fun a28 =>
 RDL PG (loadVar 59 (Addr.add a28 28)) (w2.drew) fun x30 x30N x30C =>
 RD PG (Instr.build 69 #[(0, (.int .i64 atv))]) (w2.drew) fun v2 =>
 ∃ x32 : Int, ∃ (x32v1 : Option Addr) (x32N x32C : Nat), ∃ (x32v2 : Option Addr) (x32N1 x32C1 : Nat), v2 = (.agg #[(.int .i64 x32), (.slice x32v1 x32N x32C), (.slice x32v2 x32N1 x32C1)]) ∧
 (RUNA PG (Instr.box 69 (.agg #[(.int .i64 x32), (.slice x32v1 x32N x32C), (.slice x32v2 x32N1 x32C1)])) (w2.drew) fun a33 w3 =>
 RUNL PG (Instr.buildSlice 59 1 #[(0, (.pointer (some a33)))]) w3 fun x34 x34N x34C w4 =>
 RUNL PG (Builtin.append_ #[59, 59] 59 #[(.slice x30 x30N x30C), (.slice x34 x34N x34C)]) w4 fun x35 x35N x35C w5 =>
 NILC h fun a36 =>
 RUNU PG (storeVar 59 (Addr.add a36 28) (.slice x35 x35N x35C)) w5 fun w6 =>
 Q (.int .i64 (0 : Int)) w6))))))
theorem eq13 : ∀ (h : Option Addr) (atv : Int) (w : World) (Q : Value → World → Prop), vcF PG TB Try.f13 .nil [(.pointer h), (.int .i64 atv)] w Q = N13 h atv w Q := by intros; kernel_rfl
theorem call13 {h : Option Addr} {atv : Int} {w : World} {Q : Value → World → Prop} (hN : N13 h atv w Q) : CALL PG 13 [(.pointer h), (.int .i64 atv)] w Q := calls_vc tabOk Try.func13 (by rw [eq13]; exact hN)

/-- brougham/net.copies -/
def N18 (l : Option Addr) (lN lC : Nat) (w : World) (Q : Value → World → Prop) : Prop :=
 ∃ I : Nat → Option Addr → Nat → Nat → Int → World → Prop,
 (∃ m, I m none 0 0 (0 : Int) w) ∧
 (∀ m1 (out : Option Addr) (outN outC : Nat) (x8 : Int) (w1 : World), I m1 out outN outC x8 w1 → (IFB (decide (x8 < (lN : Int)))
 (IDX l lN x8 fun a10 =>
 RD PG (loadVar 85 (Addr.add a10 (Int.toNat x8 * 3))) w1 fun v =>
 ∃ x11 : Int, ∃ x11v1 : Int, ∃ (x11v2 : Option Addr) (x11N x11C : Nat), v = (.agg #[(.int .i64 x11), (.int .i64 x11v1), (.slice x11v2 x11N x11C)]) ∧
 (RUNA PG (Instr.alloc 85 true (.tuple #[])) w1 fun a5 w2 =>
 RUNU PG (storeVar 85 a5 (.agg #[(.int .i64 x11), (.int .i64 x11v1), (.slice x11v2 x11N x11C)])) w2 fun w3 =>
 RDL PG (loadVar 80 (Addr.add (Addr.add a5 1) 1)) w3 fun x14 x14N x14C =>
 CALL PG 27 [(.slice x14 x14N x14C)] w3 fun v1 w4 =>
 ∃ (x15 : Option Addr) (x15N x15C : Nat), v1 = (.slice x15 x15N x15C) ∧
 (RUNU PG (storeVar 80 (Addr.add (Addr.add a5 1) 1) (.slice x15 x15N x15C)) w4 fun w5 =>
 RD PG (loadVar 85 a5) w5 fun v2 =>
 ∃ x19 : Int, ∃ x19v1 : Int, ∃ (x19v2 : Option Addr) (x19N x19C : Nat), v2 = (.agg #[(.int .i64 x19), (.int .i64 x19v1), (.slice x19v2 x19N x19C)]) ∧
 (RUNL PG (Instr.buildSlice 39 1 #[(0, (.agg #[(.int .i64 x19), (.int .i64 x19v1), (.slice x19v2 x19N x19C)]))]) w5 fun x20 x20N x20C w6 =>
 RUNL PG (Builtin.append_ #[39, 39] 39 #[(.slice out outN outC), (.slice x20 x20N x20C)]) w6 fun x21 x21N x21C w7 =>
 ∃ m2, m2 < m1 ∧ I m2 x21 x21N x21C (IntKind.i64.wrap (x8 + (1 : Int))) w7))))
 (Q (.slice out outN outC) w1)))
theorem eq18 : ∀ (l : Option Addr) (lN lC : Nat) (w : World) (Q : Value → World → Prop), vcF PG TB Try.f18 (.s .nil (.s .nil (.s (.s .nil (.u (.loop [(3, 39), (8, 3)] .nil))) .nil))) [(.slice l lN lC)] w Q = N18 l lN lC w Q := by intros; kernel_rfl
theorem call18 {l : Option Addr} {lN lC : Nat} {w : World} {Q : Value → World → Prop} (hN : N18 l lN lC w Q) : CALL PG 18 [(.slice l lN lC)] w Q := calls_vc tabOk Try.func18 (by rw [eq18]; exact hN)

end Go.Br
