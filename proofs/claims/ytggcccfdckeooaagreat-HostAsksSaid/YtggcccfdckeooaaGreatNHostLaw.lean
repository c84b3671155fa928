/- What the code of some functions says, as the core reads it; each reading is checked by the kernel. -/
import Derived.Test.YtggcccfdckeooaaGreatBrSeat
set_option linter.unusedVariables false
set_option maxRecDepth 100000
namespace Go.Br
open Go Go.Proofs

/-- brougham/broughamlaw23.HostRight -/
def N4 (c : Int) (c1 : Int) (c2 : Int) (c3 : Int) (c4 : Int) (c5 : Int) (c6 : Int) (c7 : Int) (c8 : Int) (c9 : Int) (c10 : Int) (c11 : Int) (c12 : Int) (c13 : Int) (c14 : Int) (w : World) (Q : Value → World → Prop) : Prop :=
 RUNA PG (Instr.box 49 (.agg #[(.int .i64 c), (.int .i64 c1), (.int .i64 c2), (.int .i64 c3), (.int .i64 c4), (.int .i64 c5), (.int .i64 c6), (.int .i64 c7), (.int .i64 c8), (.int .i64 c9), (.int .i64 c10), (.int .i64 c11), (.int .i64 c12), (.int .i64 c13), (.int .i64 c14)])) w fun a1 w1 =>
 RD PG (loadVar 49 a1) w1 fun v =>
 ∃ x6 : Int, ∃ x6v1 : Int, ∃ x6v2 : Int, ∃ x6v3 : Int, ∃ x6v4 : Int, ∃ x6v5 : Int, ∃ x6v6 : Int, ∃ x6v7 : Int, ∃ x6v8 : Int, ∃ x6v9 : Int, ∃ x6v10 : Int, ∃ x6v11 : Int, ∃ x6v12 : Int, ∃ x6v13 : Int, ∃ x6v14 : Int, v = (.agg #[(.int .i64 x6), (.int .i64 x6v1), (.int .i64 x6v2), (.int .i64 x6v3), (.int .i64 x6v4), (.int .i64 x6v5), (.int .i64 x6v6), (.int .i64 x6v7), (.int .i64 x6v8), (.int .i64 x6v9), (.int .i64 x6v10), (.int .i64 x6v11), (.int .i64 x6v12), (.int .i64 x6v13), (.int .i64 x6v14)]) ∧
 (RD PG (Instr.build 27 #[]) w1 fun v1 =>
 ∃ x7 : Int, ∃ x7v1 : Int, v1 = (.agg #[(.int .u64 x7), (.int .u64 x7v1)]) ∧
 (CALL PG 13 [(.agg #[(.int .i64 x6), (.int .i64 x6v1), (.int .i64 x6v2), (.int .i64 x6v3), (.int .i64 x6v4), (.int .i64 x6v5), (.int .i64 x6v6), (.int .i64 x6v7), (.int .i64 x6v8), (.int .i64 x6v9), (.int .i64 x6v10), (.int .i64 x6v11), (.int .i64 x6v12), (.int .i64 x6v13), (.int .i64 x6v14)]), (.agg #[(.int .u64 x7), (.int .u64 x7v1)])] w1 fun v2 w2 =>
 ∃ x8 : Option Addr, ∃ x8v1 : Int, v2 = (.tuple #[(.pointer x8), (.int .i64 x8v1)]) ∧
 (LETI x8v1 fun e =>
 RD PG (loadVar 49 a1) w2 fun v3 =>
 ∃ x11 : Int, ∃ x11v1 : Int, ∃ x11v2 : Int, ∃ x11v3 : Int, ∃ x11v4 : Int, ∃ x11v5 : Int, ∃ x11v6 : Int, ∃ x11v7 : Int, ∃ x11v8 : Int, ∃ x11v9 : Int, ∃ x11v10 : Int, ∃ x11v11 : Int, ∃ x11v12 : Int, ∃ x11v13 : Int, ∃ x11v14 : Int, v3 = (.agg #[(.int .i64 x11), (.int .i64 x11v1), (.int .i64 x11v2), (.int .i64 x11v3), (.int .i64 x11v4), (.int .i64 x11v5), (.int .i64 x11v6), (.int .i64 x11v7), (.int .i64 x11v8), (.int .i64 x11v9), (.int .i64 x11v10), (.int .i64 x11v11), (.int .i64 x11v12), (.int .i64 x11v13), (.int .i64 x11v14)]) ∧
 (CALL PG 14 [(.agg #[(.int .i64 x11), (.int .i64 x11v1), (.int .i64 x11v2), (.int .i64 x11v3), (.int .i64 x11v4), (.int .i64 x11v5), (.int .i64 x11v6), (.int .i64 x11v7), (.int .i64 x11v8), (.int .i64 x11v9), (.int .i64 x11v10), (.int .i64 x11v11), (.int .i64 x11v12), (.int .i64 x11v13), (.int .i64 x11v14)])] w2 fun v4 w3 =>
 ∃ x12 : Bool, v4 = (.bool x12) ∧
 (IFB x12
 (RD PG (loadVar 49 a1) w3 fun v5 =>
 ∃ x13 : Int, ∃ x13v1 : Int, ∃ x13v2 : Int, ∃ x13v3 : Int, ∃ x13v4 : Int, ∃ x13v5 : Int, ∃ x13v6 : Int, ∃ x13v7 : Int, ∃ x13v8 : Int, ∃ x13v9 : Int, ∃ x13v10 : Int, ∃ x13v11 : Int, ∃ x13v12 : Int, ∃ x13v13 : Int, ∃ x13v14 : Int, v5 = (.agg #[(.int .i64 x13), (.int .i64 x13v1), (.int .i64 x13v2), (.int .i64 x13v3), (.int .i64 x13v4), (.int .i64 x13v5), (.int .i64 x13v6), (.int .i64 x13v7), (.int .i64 x13v8), (.int .i64 x13v9), (.int .i64 x13v10), (.int .i64 x13v11), (.int .i64 x13v12), (.int .i64 x13v13), (.int .i64 x13v14)]) ∧
 (CALL PG 15 [(.agg #[(.int .i64 x13), (.int .i64 x13v1), (.int .i64 x13v2), (.int .i64 x13v3), (.int .i64 x13v4), (.int .i64 x13v5), (.int .i64 x13v6), (.int .i64 x13v7), (.int .i64 x13v8), (.int .i64 x13v9), (.int .i64 x13v10), (.int .i64 x13v11), (.int .i64 x13v12), (.int .i64 x13v13), (.int .i64 x13v14)])] w3 fun v6 w4 =>
 ∃ x14 : Int, v6 = (.int .i64 x14) ∧
 (IFB (x14 == (0 : Int))
 (IFB (e == (0 : Int))
 (IFB (!x8.isNone)
 (CALL PG 16 [] w4 fun v7 w5 =>
 ∃ x25 : Bool, v7 = (.bool x25) ∧
 (LETB x25 fun x2 =>
 Q (.bool x2) w5))
 (LETB false fun x2v1 =>
 Q (.bool x2v1) w4))
 (LETB false fun x2v2 =>
 Q (.bool x2v2) w4))
 (LETB false fun x2v3 =>
 Q (.bool x2v3) w4))))
 (RD PG (loadVar 49 a1) w3 fun v8 =>
 ∃ x27 : Int, ∃ x27v1 : Int, ∃ x27v2 : Int, ∃ x27v3 : Int, ∃ x27v4 : Int, ∃ x27v5 : Int, ∃ x27v6 : Int, ∃ x27v7 : Int, ∃ x27v8 : Int, ∃ x27v9 : Int, ∃ x27v10 : Int, ∃ x27v11 : Int, ∃ x27v12 : Int, ∃ x27v13 : Int, ∃ x27v14 : Int, v8 = (.agg #[(.int .i64 x27), (.int .i64 x27v1), (.int .i64 x27v2), (.int .i64 x27v3), (.int .i64 x27v4), (.int .i64 x27v5), (.int .i64 x27v6), (.int .i64 x27v7), (.int .i64 x27v8), (.int .i64 x27v9), (.int .i64 x27v10), (.int .i64 x27v11), (.int .i64 x27v12), (.int .i64 x27v13), (.int .i64 x27v14)]) ∧
 (CALL PG 15 [(.agg #[(.int .i64 x27), (.int .i64 x27v1), (.int .i64 x27v2), (.int .i64 x27v3), (.int .i64 x27v4), (.int .i64 x27v5), (.int .i64 x27v6), (.int .i64 x27v7), (.int .i64 x27v8), (.int .i64 x27v9), (.int .i64 x27v10), (.int .i64 x27v11), (.int .i64 x27v12), (.int .i64 x27v13), (.int .i64 x27v14)])] w3 fun v9 w6 =>
 ∃ x28 : Int, v9 = (.int .i64 x28) ∧
 (IFB (x28 == (200 : Int))
 (IFB (e == (200 : Int))
 (IFB (x8.isNone)
 (CALL PG 16 [] w6 fun v10 w7 =>
 ∃ x39 : Bool, v10 = (.bool x39) ∧
 (LETB x39 fun x2v4 =>
 Q (.bool x2v4) w7))
 (LETB false fun x2v5 =>
 Q (.bool x2v5) w6))
 (LETB false fun x2v6 =>
 Q (.bool x2v6) w6))
 (LETB false fun x2v7 =>
 Q (.bool x2v7) w6)))))))))
theorem eq4 : ∀ (c : Int) (c1 : Int) (c2 : Int) (c3 : Int) (c4 : Int) (c5 : Int) (c6 : Int) (c7 : Int) (c8 : Int) (c9 : Int) (c10 : Int) (c11 : Int) (c12 : Int) (c13 : Int) (c14 : Int) (w : World) (Q : Value → World → Prop), vcF PG TB Tryz.f4 .nil [(.agg #[(.int .i64 c), (.int .i64 c1), (.int .i64 c2), (.int .i64 c3), (.int .i64 c4), (.int .i64 c5), (.int .i64 c6), (.int .i64 c7), (.int .i64 c8), (.int .i64 c9), (.int .i64 c10), (.int .i64 c11), (.int .i64 c12), (.int .i64 c13), (.int .i64 c14)])] w Q = N4 c c1 c2 c3 c4 c5 c6 c7 c8 c9 c10 c11 c12 c13 c14 w Q := by intros; kernel_rfl
theorem call4 {c : Int} {c1 : Int} {c2 : Int} {c3 : Int} {c4 : Int} {c5 : Int} {c6 : Int} {c7 : Int} {c8 : Int} {c9 : Int} {c10 : Int} {c11 : Int} {c12 : Int} {c13 : Int} {c14 : Int} {w : World} {Q : Value → World → Prop} (hN : N4 c c1 c2 c3 c4 c5 c6 c7 c8 c9 c10 c11 c12 c13 c14 w Q) : CALL PG 4 [(.agg #[(.int .i64 c), (.int .i64 c1), (.int .i64 c2), (.int .i64 c3), (.int .i64 c4), (.int .i64 c5), (.int .i64 c6), (.int .i64 c7), (.int .i64 c8), (.int .i64 c9), (.int .i64 c10), (.int .i64 c11), (.int .i64 c12), (.int .i64 c13), (.int .i64 c14)])] w Q := calls_vc tabOk Tryz.func4 (by rw [eq4]; exact hN)

/-- brougham/broughamlaw23.alive -/
def N16  (w : World) (Q : Value → World → Prop) : Prop :=
 CALL PG 28 [] w fun v w1 =>
 ∃ x10 : Int, ∃ x10v1 : Int, ∃ x10v2 : Int, ∃ x10v3 : Int, ∃ x10v4 : Int, ∃ x10v5 : Int, ∃ x10v6 : Int, ∃ x10v7 : Int, ∃ x10v8 : Int, ∃ x10v9 : Int, ∃ x10v10 : Int, ∃ x10v11 : Int, ∃ x10v12 : Int, ∃ x10v13 : Int, ∃ x10v14 : Int, v = (.agg #[(.int .i64 x10), (.int .i64 x10v1), (.int .i64 x10v2), (.int .i64 x10v3), (.int .i64 x10v4), (.int .i64 x10v5), (.int .i64 x10v6), (.int .i64 x10v7), (.int .i64 x10v8), (.int .i64 x10v9), (.int .i64 x10v10), (.int .i64 x10v11), (.int .i64 x10v12), (.int .i64 x10v13), (.int .i64 x10v14)]) ∧
 (RD PG (Instr.build 27 #[(0, (.int .u64 (1 : Int)))]) w1 fun v1 =>
 ∃ x11 : Int, ∃ x11v1 : Int, v1 = (.agg #[(.int .u64 x11), (.int .u64 x11v1)]) ∧
 (CALL PG 13 [(.agg #[(.int .i64 x10), (.int .i64 x10v1), (.int .i64 x10v2), (.int .i64 x10v3), (.int .i64 x10v4), (.int .i64 x10v5), (.int .i64 x10v6), (.int .i64 x10v7), (.int .i64 x10v8), (.int .i64 x10v9), (.int .i64 x10v10), (.int .i64 x10v11), (.int .i64 x10v12), (.int .i64 x10v13), (.int .i64 x10v14)]), (.agg #[(.int .u64 x11), (.int .u64 x11v1)])] w1 fun v2 w2 =>
 ∃ x12 : Option Addr, ∃ x12v1 : Int, v2 = (.tuple #[(.pointer x12), (.int .i64 x12v1)]) ∧
 (LETI x12v1 fun e =>
 IFB (e != (0 : Int))
 (Q (.bool false) w2)
 (IFB (x12.isNone)
 (Q (.bool false) w2)
 (CALL PG 22 [(.pointer x12), (.int .i64 (80 : Int))] w2 fun v3 w3 =>
 ∃ x22 : Int, v3 = (.int .i64 x22) ∧
 (CALL PG 22 [(.pointer x12), (.int .i64 (80 : Int))] w3 fun v4 w4 =>
 ∃ x24 : Int, v4 = (.int .i64 x24) ∧
 (LETI x22 fun a =>
 LETI x24 fun b =>
 CALL PG 34 [(.pointer x12), (.int .i64 (80 : Int))] w4 fun v5 w5 =>
 ∃ x27 : Int, ∃ x27v1 : Int, v5 = (.tuple #[(.int .i64 x27), (.int .i64 x27v1)]) ∧
 (LETI x27 fun x =>
 LETI x27v1 fun c =>
 CALL PG 17 [(.pointer x12), (.int .i64 (80 : Int)), (.int .i64 (5 : Int)), (.int .i64 (0 : Int))] w5 fun v6 w6 =>
 ∃ x32 : Int, ∃ x32v1 : Int, v6 = (.tuple #[(.int .i64 x32), (.int .i64 x32v1)]) ∧
 (LETI x32 fun x1 =>
 LETI x32v1 fun d =>
 CALL PG 23 [(.pointer x12), (.int .i64 (0 : Int)), (.slice none 0 0)] w6 fun v7 w7 =>
 v7 = (.tuple #[]) ∧
 (IFB (a == (0 : Int))
 (IFB (b == (202 : Int))
 (IFB (c == (210 : Int))
 (IFB (d == (202 : Int))
 (NILC x12 fun a53 =>
 RDI PG (loadVar 3 (Addr.add (Addr.add a53 0) 6)) .i64 w7 fun x56 =>
 LETB (x56 == (1 : Int)) fun x0 =>
 Q (.bool x0) w7)
 (LETB false fun x0v1 =>
 Q (.bool x0v1) w7))
 (LETB false fun x0v2 =>
 Q (.bool x0v2) w7))
 (LETB false fun x0v3 =>
 Q (.bool x0v3) w7))
 (LETB false fun x0v4 =>
 Q (.bool x0v4) w7)))))))))))
theorem eq16 : ∀  (w : World) (Q : Value → World → Prop), vcF PG TB Tryz.f16 .nil [] w Q = N16  w Q := by intros; kernel_rfl
theorem call16  {w : World} {Q : Value → World → Prop} (hN : N16  w Q) : CALL PG 16 [] w Q := calls_vc tabOk Tryz.func16 (by rw [eq16]; exact hN)

/-- (*brougham/host.Host).Connect -/
def N17 (h : Option Addr) (localv : Int) (remote : Int) (path : Int) (w : World) (Q : Value → World → Prop) : Prop :=
 CALL PG 35 [(.int .i64 localv)] w fun v w1 =>
 ∃ x15 : Bool, v = (.bool x15) ∧
 (IFB (!x15)
 (Q (.tuple #[(.int .i64 (0 : Int)), (.int .i64 (202 : Int))]) w1)
 (CALL PG 35 [(.int .i64 remote)] w1 fun v1 w2 =>
 ∃ x19 : Bool, v1 = (.bool x19) ∧
 (IFB (!x19)
 (Q (.tuple #[(.int .i64 (0 : Int)), (.int .i64 (202 : Int))]) w2)
 (CALL PG 36 [(.pointer h), (.int .i64 localv)] w2 fun v2 w3 =>
 ∃ x25 : Option Addr, v2 = (.pointer x25) ∧
 (IFB (!x25.isNone)
 (Q (.tuple #[(.int .i64 (0 : Int)), (.int .i64 (202 : Int))]) w3)
 (IFB (decide (path < (0 : Int)))
 (Q (.tuple #[(.int .i64 (0 : Int)), (.int .i64 (205 : Int))]) w3)
 (NILC h fun a33 =>
 RDI PG (loadVar 3 (Addr.add (Addr.add a33 10) 7)) .i64 w3 fun x36 =>
 IFB (decide (path ≥ x36))
 (Q (.tuple #[(.int .i64 (0 : Int)), (.int .i64 (205 : Int))]) w3)
 (RD PG (Instr.build 30 #[(0, (.int .i64 path)), (1, (.int .u16 (IntKind.u16.wrap localv))), (2, (.int .u16 (IntKind.u16.wrap remote)))]) w3 fun v3 =>
 ∃ x44 : Int, ∃ x44v1 : Int, ∃ x44v2 : Int, v3 = (.agg #[(.int .i64 x44), (.int .u16 x44v1), (.int .u16 x44v2)]) ∧
 (RUNA PG (Instr.alloc 30 true (.tuple #[])) w3 fun a10 w4 =>
 RUNU PG (storeVar 30 a10 (.agg #[(.int .i64 x44), (.int .u16 x44v1), (.int .u16 x44v2)])) w4 fun w5 =>
 RD PG (loadVar 30 a10) w5 fun v4 =>
 ∃ x46 : Int, ∃ x46v1 : Int, ∃ x46v2 : Int, v4 = (.agg #[(.int .i64 x46), (.int .u16 x46v1), (.int .u16 x46v2)]) ∧
 (CALL PG 37 [(.pointer h), (.agg #[(.int .i64 x46), (.int .u16 x46v1), (.int .u16 x46v2)])] w5 fun v5 w6 =>
 ∃ x47 : Bool, v5 = (.bool x47) ∧
 (IFB x47
 (Q (.tuple #[(.int .i64 (0 : Int)), (.int .i64 (202 : Int))]) w6)
 (NILC h fun a49 =>
 RD PG (loadVar 93 (Addr.add a49 29)) (w6.drew) fun v6 =>
 ∃ x51 : Value, v6 = x51 ∧
 (RDI PG (Builtin.len_ #[93] 3 #[x51]) .i64 (w6.drew) fun x52 =>
 NILC h fun a54 =>
 RDI PG (loadVar 3 (Addr.add (Addr.add a54 10) 2)) .i64 (w6.drew) fun x57 =>
 IFB (decide (x52 ≥ x57))
 (Q (.tuple #[(.int .i64 (0 : Int)), (.int .i64 (204 : Int))]) (w6.drew))
 (NILC h fun a60 =>
 NILC h fun a64 =>
 CALL PG 38 [(.pointer (some (Addr.add a60 25)))] ((w6.drew).drew) fun v7 w7 =>
 ∃ x62 : Int, v7 = (.int .u64 x62) ∧
 (CALL PG 38 [(.pointer (some (Addr.add a64 25)))] w7 fun v8 w8 =>
 ∃ x66 : Int, v8 = (.int .u64 x66) ∧
 (LETI x62 fun key =>
 LETI x66 fun first =>
 NILC h fun a68 =>
 RD PG (loadVar 49 (Addr.add a68 10)) (w8.drew) fun v9 =>
 ∃ x70 : Int, ∃ x70v1 : Int, ∃ x70v2 : Int, ∃ x70v3 : Int, ∃ x70v4 : Int, ∃ x70v5 : Int, ∃ x70v6 : Int, ∃ x70v7 : Int, ∃ x70v8 : Int, ∃ x70v9 : Int, ∃ x70v10 : Int, ∃ x70v11 : Int, ∃ x70v12 : Int, ∃ x70v13 : Int, ∃ x70v14 : Int, v9 = (.agg #[(.int .i64 x70), (.int .i64 x70v1), (.int .i64 x70v2), (.int .i64 x70v3), (.int .i64 x70v4), (.int .i64 x70v5), (.int .i64 x70v6), (.int .i64 x70v7), (.int .i64 x70v8), (.int .i64 x70v9), (.int .i64 x70v10), (.int .i64 x70v11), (.int .i64 x70v12), (.int .i64 x70v13), (.int .i64 x70v14)]) ∧
 (RD PG (loadVar 30 a10) (w8.drew) fun v10 =>
 ∃ x72 : Int, ∃ x72v1 : Int, ∃ x72v2 : Int, v10 = (.agg #[(.int .i64 x72), (.int .u16 x72v1), (.int .u16 x72v2)]) ∧
 (CALL PG 39 [(.agg #[(.int .i64 x70), (.int .i64 x70v1), (.int .i64 x70v2), (.int .i64 x70v3), (.int .i64 x70v4), (.int .i64 x70v5), (.int .i64 x70v6), (.int .i64 x70v7), (.int .i64 x70v8), (.int .i64 x70v9), (.int .i64 x70v10), (.int .i64 x70v11), (.int .i64 x70v12), (.int .i64 x70v13), (.int .i64 x70v14)]), (.int .u64 key), (.agg #[(.int .i64 x72), (.int .u16 x72v1), (.int .u16 x72v2)]), (.int .u32 (IntKind.u32.wrap first))] (w8.drew) fun v11 w9 =>
 ∃ x75 : Option Addr, v11 = (.pointer x75) ∧
 (CALL PG 40 [(.pointer h), (.pointer x75)] w9 fun v12 w10 =>
 ∃ x78 : Int, v12 = (.int .i64 x78) ∧
 (LETI x78 fun x8 =>
 Q (.tuple #[(.int .i64 x8), (.int .i64 (0 : Int))]) w10))))))))))))))))))))
theorem eq17 : ∀ (h : Option Addr) (localv : Int) (remote : Int) (path : Int) (w : World) (Q : Value → World → Prop), vcF PG TB Tryz.f17 .nil [(.pointer h), (.int .i64 localv), (.int .i64 remote), (.int .i64 path)] w Q = N17 h localv remote path w Q := by intros; kernel_rfl
theorem call17 {h : Option Addr} {localv : Int} {remote : Int} {path : Int} {w : World} {Q : Value → World → Prop} (hN : N17 h localv remote path w Q) : CALL PG 17 [(.pointer h), (.int .i64 localv), (.int .i64 remote), (.int .i64 path)] w Q := calls_vc tabOk Tryz.func17 (by rw [eq17]; exact hN)

/-- (*brougham/host.Host).Listen -/
def N22 (h : Option Addr) (atv : Int) (w : World) (Q : Value → World → Prop) : Prop :=
 CALL PG 35 [(.int .i64 atv)] w fun v w1 =>
 ∃ x7 : Bool, v = (.bool x7) ∧
 (LETB (!x7) fun x5 =>
 IFB x5
 (Q (.int .i64 (202 : Int)) w1)
 (CALL PG 36 [(.pointer h), (.int .i64 atv)] w1 fun v1 w2 =>
 ∃ x12 : Option Addr, v1 = (.pointer x12) ∧
 (LETB (!x12.isNone) fun x9 =>
 IFB x9
 (Q (.int .i64 (202 : Int)) w2)
 (NILC h fun a16 =>
 RDL PG (loadVar 94 (Addr.add a16 28)) (w2.drew) fun x18 x18N x18C =>
 NILC h fun a21 =>
 RDI PG (loadVar 3 (Addr.add (Addr.add a21 10) 0)) .i64 (w2.drew) fun x24 =>
 LETB (decide ((x18N : Int) ≥ x24)) fun x14 =>
 IFB x14
 (Q (.int .i64 (203 : Int)) (w2.drew))
 (NILC h fun a28 =>
 RDL PG (loadVar 94 (Addr.add a28 28)) (w2.drew) fun x30 x30N x30C =>
 RD PG (Instr.build 118 #[(0, (.int .i64 atv))]) (w2.drew) fun v2 =>
 ∃ x32 : Int, ∃ (x32v1 : Option Addr) (x32N x32C : Nat), ∃ (x32v2 : Option Addr) (x32N1 x32C1 : Nat), v2 = (.agg #[(.int .i64 x32), (.slice x32v1 x32N x32C), (.slice x32v2 x32N1 x32C1)]) ∧
 (RUNA PG (Instr.box 118 (.agg #[(.int .i64 x32), (.slice x32v1 x32N x32C), (.slice x32v2 x32N1 x32C1)])) (w2.drew) fun a33 w3 =>
 RUNL PG (Instr.buildSlice 94 1 #[(0, (.pointer (some a33)))]) w3 fun x34 x34N x34C w4 =>
 RUNL PG (Builtin.append_ #[94, 94] 94 #[(.slice x30 x30N x30C), (.slice x34 x34N x34C)]) w4 fun x35 x35N x35C w5 =>
 NILC h fun a36 =>
 RUNU PG (storeVar 94 (Addr.add a36 28) (.slice x35 x35N x35C)) w5 fun w6 =>
 Q (.int .i64 (0 : Int)) w6))))))
theorem eq22 : ∀ (h : Option Addr) (atv : Int) (w : World) (Q : Value → World → Prop), vcF PG TB Tryz.f22 .nil [(.pointer h), (.int .i64 atv)] w Q = N22 h atv w Q := by intros; kernel_rfl
theorem call22 {h : Option Addr} {atv : Int} {w : World} {Q : Value → World → Prop} (hN : N22 h atv w Q) : CALL PG 22 [(.pointer h), (.int .i64 atv)] w Q := calls_vc tabOk Tryz.func22 (by rw [eq22]; exact hN)

/-- (*brougham/host.Host).Deliver -/
def N23 (h : Option Addr) (path : Int) (b : Option Addr) (bN bC : Nat) (w : World) (Q : Value → World → Prop) : Prop :=
 CALL PG 47 [(.slice b bN bC)] w fun v w1 =>
 ∃ x19 : Int, ∃ x19v1 : Int, ∃ x19v2 : Int, ∃ x19v3 : Int, ∃ x19v4 : Int, ∃ (x19v5 : Option Addr) (x19N x19C : Nat), ∃ (x19v6 : Option Addr) (x19N1 x19C1 : Nat), ∃ x19v7 : Int, v = (.tuple #[(.agg #[(.int .u16 x19), (.int .u16 x19v1), (.int .u32 x19v2), (.int .u32 x19v3), (.int .u8 x19v4), (.slice x19v5 x19N x19C), (.slice x19v6 x19N1 x19C1)]), (.int .i64 x19v7)]) ∧
 (RUNA PG (Instr.alloc 70 true (.tuple #[])) w1 fun a6 w2 =>
 RUNU PG (storeVar 70 a6 (.agg #[(.int .u16 x19), (.int .u16 x19v1), (.int .u32 x19v2), (.int .u32 x19v3), (.int .u8 x19v4), (.slice x19v5 x19N x19C), (.slice x19v6 x19N1 x19C1)])) w2 fun w3 =>
 LETI x19v7 fun e =>
 IFB (e != (0 : Int))
 (NILC h fun a25 =>
 RDI PG (loadVar 3 (Addr.add (Addr.add a25 0) 6)) .i64 w3 fun x28 =>
 NILC h fun a30 =>
 RUNU PG (storeVar 3 (Addr.add (Addr.add a30 0) 6) (.int .i64 (IntKind.i64.wrap (x28 + (1 : Int))))) w3 fun w4 =>
 Q (.tuple #[]) w4)
 (RDI PG (loadVar 28 (Addr.add a6 1)) .u16 w3 fun x35 =>
 RDI PG (loadVar 28 (Addr.add a6 0)) .u16 w3 fun x37 =>
 RD PG (Instr.build 30 #[(0, (.int .i64 path)), (1, (.int .u16 x35)), (2, (.int .u16 x37))]) w3 fun v1 =>
 ∃ x38 : Int, ∃ x38v1 : Int, ∃ x38v2 : Int, v1 = (.agg #[(.int .i64 x38), (.int .u16 x38v1), (.int .u16 x38v2)]) ∧
 (RUNA PG (Instr.alloc 30 true (.tuple #[])) w3 fun a8 w5 =>
 RUNU PG (storeVar 30 a8 (.agg #[(.int .i64 x38), (.int .u16 x38v1), (.int .u16 x38v2)])) w5 fun w6 =>
 RD PG (loadVar 30 a8) w6 fun v2 =>
 ∃ x41 : Int, ∃ x41v1 : Int, ∃ x41v2 : Int, v2 = (.agg #[(.int .i64 x41), (.int .u16 x41v1), (.int .u16 x41v2)]) ∧
 (CALL PG 48 [(.pointer h), (.agg #[(.int .i64 x41), (.int .u16 x41v1), (.int .u16 x41v2)])] w6 fun v3 w7 =>
 ∃ x42 : Option Addr, ∃ x42v1 : Option Addr, v3 = (.tuple #[(.pointer x42), (.pointer x42v1)]) ∧
 (IFB (!x42.isNone)
 (RD PG (loadVar 70 a6) w7 fun v4 =>
 ∃ x50 : Int, ∃ x50v1 : Int, ∃ x50v2 : Int, ∃ x50v3 : Int, ∃ x50v4 : Int, ∃ (x50v5 : Option Addr) (x50N x50C : Nat), ∃ (x50v6 : Option Addr) (x50N1 x50C1 : Nat), v4 = (.agg #[(.int .u16 x50), (.int .u16 x50v1), (.int .u32 x50v2), (.int .u32 x50v3), (.int .u8 x50v4), (.slice x50v5 x50N x50C), (.slice x50v6 x50N1 x50C1)]) ∧
 (CALL PG 50 [(.pointer x42), (.pointer x42v1), (.agg #[(.int .u16 x50), (.int .u16 x50v1), (.int .u32 x50v2), (.int .u32 x50v3), (.int .u8 x50v4), (.slice x50v5 x50N x50C), (.slice x50v6 x50N1 x50C1)])] w7 fun v5 w8 =>
 ∃ x51 : Int, v5 = (.int .i64 x51) ∧
 (CALL PG 49 [(.pointer h), (.int .i64 x51)] w8 fun v6 w9 =>
 v6 = (.tuple #[]) ∧
 (CALL PG 51 [(.pointer h), (.pointer x42)] w9 fun v7 w10 =>
 v7 = (.tuple #[]) ∧
 (RDI PG (loadVar 28 (Addr.add a6 1)) .u16 w10 fun x58 =>
 CALL PG 52 [(.pointer h), (.int .i64 (IntKind.i64.wrap x58)), (.pointer x42)] w10 fun v8 w11 =>
 v8 = (.tuple #[]) ∧
 (Q (.tuple #[]) w11))))))
 (IFB (decide (path < (0 : Int)))
 (NILC h fun a79 =>
 RDI PG (loadVar 3 (Addr.add (Addr.add a79 0) 7)) .i64 w7 fun x82 =>
 NILC h fun a84 =>
 RUNU PG (storeVar 3 (Addr.add (Addr.add a84 0) 7) (.int .i64 (IntKind.i64.wrap (x82 + (1 : Int))))) w7 fun w12 =>
 Q (.tuple #[]) w12)
 (NILC h fun a67 =>
 RDI PG (loadVar 3 (Addr.add (Addr.add a67 10) 7)) .i64 w7 fun x70 =>
 IFB (decide (path ≥ x70))
 (NILC h fun a79v1 =>
 RDI PG (loadVar 3 (Addr.add (Addr.add a79v1 0) 7)) .i64 w7 fun x82v1 =>
 NILC h fun a84v1 =>
 RUNU PG (storeVar 3 (Addr.add (Addr.add a84v1 0) 7) (.int .i64 (IntKind.i64.wrap (x82v1 + (1 : Int))))) w7 fun w13 =>
 Q (.tuple #[]) w13)
 (RDI PG (loadVar 5 (Addr.add a6 4)) .u8 w7 fun x75 =>
 IFB (x75 != (1 : Int))
 (NILC h fun a79v2 =>
 RDI PG (loadVar 3 (Addr.add (Addr.add a79v2 0) 7)) .i64 w7 fun x82v2 =>
 NILC h fun a84v2 =>
 RUNU PG (storeVar 3 (Addr.add (Addr.add a84v2 0) 7) (.int .i64 (IntKind.i64.wrap (x82v2 + (1 : Int))))) w7 fun w14 =>
 Q (.tuple #[]) w14)
 (RD PG (loadVar 70 a6) w7 fun v9 =>
 ∃ x88 : Int, ∃ x88v1 : Int, ∃ x88v2 : Int, ∃ x88v3 : Int, ∃ x88v4 : Int, ∃ (x88v5 : Option Addr) (x88N x88C : Nat), ∃ (x88v6 : Option Addr) (x88N1 x88C1 : Nat), v9 = (.agg #[(.int .u16 x88), (.int .u16 x88v1), (.int .u32 x88v2), (.int .u32 x88v3), (.int .u8 x88v4), (.slice x88v5 x88N x88C), (.slice x88v6 x88N1 x88C1)]) ∧
 (CALL PG 53 [(.agg #[(.int .u16 x88), (.int .u16 x88v1), (.int .u32 x88v2), (.int .u32 x88v3), (.int .u8 x88v4), (.slice x88v5 x88N x88C), (.slice x88v6 x88N1 x88C1)]), (.int .u8 (1 : Int))] w7 fun v10 w15 =>
 ∃ x89 : Int, ∃ (x89v1 : Option Addr) (x89N x89C : Nat), ∃ x89v2 : Bool, v10 = (.tuple #[(.agg #[(.int .u8 x89), (.slice x89v1 x89N x89C)]), (.bool x89v2)]) ∧
 (RUNA PG (Instr.alloc 67 true (.tuple #[])) w15 fun a11 w16 =>
 RUNU PG (storeVar 67 a11 (.agg #[(.int .u8 x89), (.slice x89v1 x89N x89C)])) w16 fun w17 =>
 LETB x89v2 fun okv =>
 IFB okv
 (RD PG (loadVar 30 a8) w17 fun v11 =>
 ∃ x94 : Int, ∃ x94v1 : Int, ∃ x94v2 : Int, v11 = (.agg #[(.int .i64 x94), (.int .u16 x94v1), (.int .u16 x94v2)]) ∧
 (RD PG (loadVar 70 a6) w17 fun v12 =>
 ∃ x95 : Int, ∃ x95v1 : Int, ∃ x95v2 : Int, ∃ x95v3 : Int, ∃ x95v4 : Int, ∃ (x95v5 : Option Addr) (x95N x95C : Nat), ∃ (x95v6 : Option Addr) (x95N1 x95C1 : Nat), v12 = (.agg #[(.int .u16 x95), (.int .u16 x95v1), (.int .u32 x95v2), (.int .u32 x95v3), (.int .u8 x95v4), (.slice x95v5 x95N x95C), (.slice x95v6 x95N1 x95C1)]) ∧
 (RD PG (loadVar 67 a11) w17 fun v13 =>
 ∃ x96 : Int, ∃ (x96v1 : Option Addr) (x96N x96C : Nat), v13 = (.agg #[(.int .u8 x96), (.slice x96v1 x96N x96C)]) ∧
 (CALL PG 54 [(.pointer h), (.agg #[(.int .i64 x94), (.int .u16 x94v1), (.int .u16 x94v2)]), (.agg #[(.int .u16 x95), (.int .u16 x95v1), (.int .u32 x95v2), (.int .u32 x95v3), (.int .u8 x95v4), (.slice x95v5 x95N x95C), (.slice x95v6 x95N1 x95C1)]), (.agg #[(.int .u8 x96), (.slice x96v1 x96N x96C)])] w17 fun v14 w18 =>
 v14 = (.tuple #[]) ∧
 (Q (.tuple #[]) w18)))))
 (RD PG (loadVar 70 a6) w17 fun v15 =>
 ∃ x99 : Int, ∃ x99v1 : Int, ∃ x99v2 : Int, ∃ x99v3 : Int, ∃ x99v4 : Int, ∃ (x99v5 : Option Addr) (x99N x99C : Nat), ∃ (x99v6 : Option Addr) (x99N1 x99C1 : Nat), v15 = (.agg #[(.int .u16 x99), (.int .u16 x99v1), (.int .u32 x99v2), (.int .u32 x99v3), (.int .u8 x99v4), (.slice x99v5 x99N x99C), (.slice x99v6 x99N1 x99C1)]) ∧
 (CALL PG 53 [(.agg #[(.int .u16 x99), (.int .u16 x99v1), (.int .u32 x99v2), (.int .u32 x99v3), (.int .u8 x99v4), (.slice x99v5 x99N x99C), (.slice x99v6 x99N1 x99C1)]), (.int .u8 (2 : Int))] w17 fun v16 w19 =>
 ∃ x100 : Int, ∃ (x100v1 : Option Addr) (x100N x100C : Nat), ∃ x100v2 : Bool, v16 = (.tuple #[(.agg #[(.int .u8 x100), (.slice x100v1 x100N x100C)]), (.bool x100v2)]) ∧
 (RUNA PG (Instr.alloc 67 true (.tuple #[])) w19 fun a13 w20 =>
 RUNU PG (storeVar 67 a13 (.agg #[(.int .u8 x100), (.slice x100v1 x100N x100C)])) w20 fun w21 =>
 LETB x100v2 fun okv1 =>
 RD PG (loadVar 67 a13) w21 fun v17 =>
 ∃ x104 : Int, ∃ (x104v1 : Option Addr) (x104N x104C : Nat), v17 = (.agg #[(.int .u8 x104), (.slice x104v1 x104N x104C)]) ∧
 (CALL PG 55 [(.agg #[(.int .u8 x104), (.slice x104v1 x104N x104C)])] w21 fun v18 w22 =>
 ∃ x105 : Int, ∃ x105v1 : Int, ∃ x105v2 : Int, ∃ x105v3 : Bool, ∃ x105v4 : Bool, ∃ x105v5 : Int, ∃ x105v6 : Bool, v18 = (.tuple #[(.agg #[(.int .u32 x105), (.int .u32 x105v1), (.int .u8 x105v2), (.bool x105v3), (.bool x105v4), (.int .u64 x105v5)]), (.bool x105v6)]) ∧
 (RUNA PG (Instr.alloc 135 true (.tuple #[])) w22 fun a15 w23 =>
 RUNU PG (storeVar 135 a15 (.agg #[(.int .u32 x105), (.int .u32 x105v1), (.int .u8 x105v2), (.bool x105v3), (.bool x105v4), (.int .u64 x105v5)])) w23 fun w24 =>
 LETB x105v6 fun isv =>
 IFB (!okv1)
 (NILC h fun a119 =>
 RDI PG (loadVar 3 (Addr.add (Addr.add a119 0) 7)) .i64 w24 fun x122 =>
 NILC h fun a124 =>
 RUNU PG (storeVar 3 (Addr.add (Addr.add a124 0) 7) (.int .i64 (IntKind.i64.wrap (x122 + (1 : Int))))) w24 fun w25 =>
 Q (.tuple #[]) w25)
 (IFB (!isv)
 (NILC h fun a119v1 =>
 RDI PG (loadVar 3 (Addr.add (Addr.add a119v1 0) 7)) .i64 w24 fun x122v1 =>
 NILC h fun a124v1 =>
 RUNU PG (storeVar 3 (Addr.add (Addr.add a124v1 0) 7) (.int .i64 (IntKind.i64.wrap (x122v1 + (1 : Int))))) w24 fun w26 =>
 Q (.tuple #[]) w26)
 (RDB PG (loadVar 4 (Addr.add a15 4)) w24 fun x116 =>
 IFB x116
 (NILC h fun a119v2 =>
 RDI PG (loadVar 3 (Addr.add (Addr.add a119v2 0) 7)) .i64 w24 fun x122v2 =>
 NILC h fun a124v2 =>
 RUNU PG (storeVar 3 (Addr.add (Addr.add a124v2 0) 7) (.int .i64 (IntKind.i64.wrap (x122v2 + (1 : Int))))) w24 fun w27 =>
 Q (.tuple #[]) w27)
 (RD PG (loadVar 30 a8) w24 fun v19 =>
 ∃ x128 : Int, ∃ x128v1 : Int, ∃ x128v2 : Int, v19 = (.agg #[(.int .i64 x128), (.int .u16 x128v1), (.int .u16 x128v2)]) ∧
 (RD PG (loadVar 70 a6) w24 fun v20 =>
 ∃ x129 : Int, ∃ x129v1 : Int, ∃ x129v2 : Int, ∃ x129v3 : Int, ∃ x129v4 : Int, ∃ (x129v5 : Option Addr) (x129N x129C : Nat), ∃ (x129v6 : Option Addr) (x129N1 x129C1 : Nat), v20 = (.agg #[(.int .u16 x129), (.int .u16 x129v1), (.int .u32 x129v2), (.int .u32 x129v3), (.int .u8 x129v4), (.slice x129v5 x129N x129C), (.slice x129v6 x129N1 x129C1)]) ∧
 (RD PG (loadVar 135 a15) w24 fun v21 =>
 ∃ x130 : Int, ∃ x130v1 : Int, ∃ x130v2 : Int, ∃ x130v3 : Bool, ∃ x130v4 : Bool, ∃ x130v5 : Int, v21 = (.agg #[(.int .u32 x130), (.int .u32 x130v1), (.int .u8 x130v2), (.bool x130v3), (.bool x130v4), (.int .u64 x130v5)]) ∧
 (CALL PG 56 [(.pointer h), (.agg #[(.int .i64 x128), (.int .u16 x128v1), (.int .u16 x128v2)]), (.agg #[(.int .u16 x129), (.int .u16 x129v1), (.int .u32 x129v2), (.int .u32 x129v3), (.int .u8 x129v4), (.slice x129v5 x129N x129C), (.slice x129v6 x129N1 x129C1)]), (.agg #[(.int .u32 x130), (.int .u32 x130v1), (.int .u8 x130v2), (.bool x130v3), (.bool x130v4), (.int .u64 x130v5)])] w24 fun v22 w28 =>
 v22 = (.tuple #[]) ∧
 (Q (.tuple #[]) w28)))))))))))))))))))))))
theorem eq23 : ∀ (h : Option Addr) (path : Int) (b : Option Addr) (bN bC : Nat) (w : World) (Q : Value → World → Prop), vcF PG TB Tryz.f23 .nil [(.pointer h), (.int .i64 path), (.slice b bN bC)] w Q = N23 h path b bN bC w Q := by intros; kernel_rfl
theorem call23 {h : Option Addr} {path : Int} {b : Option Addr} {bN bC : Nat} {w : World} {Q : Value → World → Prop} (hN : N23 h path b bN bC w Q) : CALL PG 23 [(.pointer h), (.int .i64 path), (.slice b bN bC)] w Q := calls_vc tabOk Tryz.func23 (by rw [eq23]; exact hN)

/-- brougham/broughamlaw23.Usual -/
def N28  (w : World) (Q : Value → World → Prop) : Prop :=
 RUNA PG (Instr.alloc 49 true (.tuple #[])) w fun a0 w1 =>
 RD PG (Instr.build 49 #[(0, (.int .i64 (2 : Int))), (1, (.int .i64 (2 : Int))), (2, (.int .i64 (3 : Int))), (3, (.int .i64 (3 : Int))), (4, (.int .i64 (64 : Int))), (5, (.int .i64 (16 : Int))), (6, (.int .i64 (4 : Int))), (7, (.int .i64 (3 : Int))), (8, (.int .i64 (8 : Int))), (9, (.int .i64 (200 : Int))), (10, (.int .i64 (20 : Int))), (11, (.int .i64 (3 : Int))), (12, (.int .i64 (1 : Int))), (13, (.int .i64 (8 : Int))), (14, (.int .i64 (1 : Int)))]) w1 fun v =>
 ∃ x1 : Int, ∃ x1v1 : Int, ∃ x1v2 : Int, ∃ x1v3 : Int, ∃ x1v4 : Int, ∃ x1v5 : Int, ∃ x1v6 : Int, ∃ x1v7 : Int, ∃ x1v8 : Int, ∃ x1v9 : Int, ∃ x1v10 : Int, ∃ x1v11 : Int, ∃ x1v12 : Int, ∃ x1v13 : Int, ∃ x1v14 : Int, v = (.agg #[(.int .i64 x1), (.int .i64 x1v1), (.int .i64 x1v2), (.int .i64 x1v3), (.int .i64 x1v4), (.int .i64 x1v5), (.int .i64 x1v6), (.int .i64 x1v7), (.int .i64 x1v8), (.int .i64 x1v9), (.int .i64 x1v10), (.int .i64 x1v11), (.int .i64 x1v12), (.int .i64 x1v13), (.int .i64 x1v14)]) ∧
 (RUNU PG (storeVar 49 a0 (.agg #[(.int .i64 x1), (.int .i64 x1v1), (.int .i64 x1v2), (.int .i64 x1v3), (.int .i64 x1v4), (.int .i64 x1v5), (.int .i64 x1v6), (.int .i64 x1v7), (.int .i64 x1v8), (.int .i64 x1v9), (.int .i64 x1v10), (.int .i64 x1v11), (.int .i64 x1v12), (.int .i64 x1v13), (.int .i64 x1v14)])) w1 fun w2 =>
 RD PG (loadVar 49 a0) w2 fun v2 =>
 ∃ r : Int, ∃ r1 : Int, ∃ r2 : Int, ∃ r3 : Int, ∃ r4 : Int, ∃ r5 : Int, ∃ r6 : Int, ∃ r7 : Int, ∃ r8 : Int, ∃ r9 : Int, ∃ r10 : Int, ∃ r11 : Int, ∃ r12 : Int, ∃ r13 : Int, ∃ r14 : Int, v2 = (.agg #[(.int .i64 r), (.int .i64 r1), (.int .i64 r2), (.int .i64 r3), (.int .i64 r4), (.int .i64 r5), (.int .i64 r6), (.int .i64 r7), (.int .i64 r8), (.int .i64 r9), (.int .i64 r10), (.int .i64 r11), (.int .i64 r12), (.int .i64 r13), (.int .i64 r14)]) ∧
 (Q (.agg #[(.int .i64 r), (.int .i64 r1), (.int .i64 r2), (.int .i64 r3), (.int .i64 r4), (.int .i64 r5), (.int .i64 r6), (.int .i64 r7), (.int .i64 r8), (.int .i64 r9), (.int .i64 r10), (.int .i64 r11), (.int .i64 r12), (.int .i64 r13), (.int .i64 r14)]) w2))
theorem eq28 : ∀  (w : World) (Q : Value → World → Prop), vcF PG TB Tryz.f28 .nil [] w Q = N28  w Q := by intros; kernel_rfl
theorem call28  {w : World} {Q : Value → World → Prop} (hN : N28  w Q) : CALL PG 28 [] w Q := calls_vc tabOk Tryz.func28 (by rw [eq28]; exact hN)

/-- (*brougham/host.Host).Accept -/
def N34 (h : Option Addr) (atv : Int) (w : World) (Q : Value → World → Prop) : Prop :=
 CALL PG 36 [(.pointer h), (.int .i64 atv)] w fun v w1 =>
 ∃ x10 : Option Addr, v = (.pointer x10) ∧
 (IFB (x10.isNone)
 (Q (.tuple #[(.int .i64 (0 : Int)), (.int .i64 (202 : Int))]) w1)
 (NILC x10 fun a14 =>
 RDL PG (loadVar 116 (Addr.add a14 2)) w1 fun x16 x16N x16C =>
 IFB ((x16N : Int) == (0 : Int))
 (Q (.tuple #[(.int .i64 (0 : Int)), (.int .i64 (210 : Int))]) w1)
 (NILC x10 fun a20 =>
 RDL PG (loadVar 116 (Addr.add a20 2)) w1 fun x22 x22N x22C =>
 IDX x22 x22N (0 : Int) fun a23 =>
 RDI PG (loadVar 3 (Addr.add a23 (Int.toNat (0 : Int) * 1))) .i64 w1 fun x24 =>
 LETI x24 fun n =>
 NILC x10 fun a27 =>
 RDL PG (loadVar 116 (Addr.add a27 2)) w1 fun x29 x29N x29C =>
 NEED (0 ≤ (1 : Int) ∧ (1 : Int) ≤ ((x29N : Nat) : Int) ∧ ((x29N : Nat) : Int) ≤ ((x29C : Nat) : Int))
 (CALL PG 64 [(.slice (cutA x29 x29C 1 (1 : Int)) (Int.toNat ((x29N : Nat) : Int) - Int.toNat (1 : Int)) (x29C - Int.toNat (1 : Int)))] w1 fun v1 w2 =>
 ∃ (x31 : Option Addr) (x31N x31C : Nat), v1 = (.slice x31 x31N x31C) ∧
 (NILC x10 fun a32 =>
 RUNU PG (storeVar 116 (Addr.add a32 2) (.slice x31 x31N x31C)) w2 fun w3 =>
 LETI n fun x4 =>
 Q (.tuple #[(.int .i64 x4), (.int .i64 (0 : Int))]) w3)))))
theorem eq34 : ∀ (h : Option Addr) (atv : Int) (w : World) (Q : Value → World → Prop), vcF PG TB Tryz.f34 .nil [(.pointer h), (.int .i64 atv)] w Q = N34 h atv w Q := by intros; kernel_rfl
theorem call34 {h : Option Addr} {atv : Int} {w : World} {Q : Value → World → Prop} (hN : N34 h atv w Q) : CALL PG 34 [(.pointer h), (.int .i64 atv)] w Q := calls_vc tabOk Tryz.func34 (by rw [eq34]; exact hN)

/-- brougham/host.good -/
def N35 (atv : Int) (w : World) (Q : Value → World → Prop) : Prop :=
 IFB (decide (atv ≥ (1 : Int)))
 (LETB (decide (atv ≤ (65535 : Int))) fun x2 =>
 Q (.bool x2) w)
 (LETB false fun x2v1 =>
 Q (.bool x2v1) w)
theorem eq35 : ∀ (atv : Int) (w : World) (Q : Value → World → Prop), vcF PG TB Tryz.f35 .nil [(.int .i64 atv)] w Q = N35 atv w Q := by intros; kernel_rfl
theorem call35 {atv : Int} {w : World} {Q : Value → World → Prop} (hN : N35 atv w Q) : CALL PG 35 [(.int .i64 atv)] w Q := calls_vc tabOk Tryz.func35 (by rw [eq35]; exact hN)

/-- (*brougham/host.Host).listener -/
def N36 (h : Option Addr) (atv : Int) (w : World) (Q : Value → World → Prop) : Prop :=
 NILC h fun a8 =>
 RDL PG (loadVar 94 (Addr.add a8 28)) w fun x10 x10N x10C =>
 ∃ I : Nat → Int → World → Prop,
 (∃ m, I m (0 : Int) w) ∧
 (∀ m1 (x12 : Int) (w1 : World), I m1 x12 w1 → (IFB (decide (x12 < (x10N : Int)))
 (IDX x10 x10N x12 fun a14 =>
 RDP PG (loadVar 100 (Addr.add a14 (Int.toNat x12 * 1))) w1 fun x15 =>
 NILC x15 fun a17 =>
 RDI PG (loadVar 3 (Addr.add a17 0)) .i64 w1 fun x19 =>
 IFB (x19 == atv)
 (Q (.pointer x15) w1)
 (∃ m2, m2 < m1 ∧ I m2 (IntKind.i64.wrap (x12 + (1 : Int))) w1))
 (Q (.pointer none) w1)))
theorem eq36 : ∀ (h : Option Addr) (atv : Int) (w : World) (Q : Value → World → Prop), vcF PG TB Tryz.f36 (.s .nil (.s (.s .nil (.u (.loop [(12, 3)] .nil))) .nil)) [(.pointer h), (.int .i64 atv)] w Q = N36 h atv w Q := by intros; kernel_rfl
theorem call36 {h : Option Addr} {atv : Int} {w : World} {Q : Value → World → Prop} (hN : N36 h atv w Q) : CALL PG 36 [(.pointer h), (.int .i64 atv)] w Q := calls_vc tabOk Tryz.func36 (by rw [eq36]; exact hN)

/-- brougham/seg.Parse -/
def N47 (b : Option Addr) (bN bC : Nat) (w : World) (Q : Value → World → Prop) : Prop :=
 RUNA PG (Instr.alloc 70 true (.tuple #[])) w fun a2 w1 =>
 RUNL PG (Instr.buildSlice 116 6 #[(0, (.int .i64 (2 : Int))), (1, (.int .i64 (2 : Int))), (2, (.int .i64 (4 : Int))), (3, (.int .i64 (4 : Int))), (4, (.int .i64 (1 : Int))), (5, (.int .i64 (1 : Int)))]) w1 fun x12 x12N x12C w2 =>
 CALL PG 71 [(.slice b bN bC), (.slice x12 x12N x12C)] w2 fun v w3 =>
 ∃ (x13 : Option Addr) (x13N x13C : Nat), ∃ (x13v1 : Option Addr) (x13N1 x13C1 : Nat), ∃ x13v2 : Bool, v = (.tuple #[(.slice x13 x13N x13C), (.slice x13v1 x13N1 x13C1), (.bool x13v2)]) ∧
 (LETB x13v2 fun okv =>
 IFB (!okv)
 (RD PG (Instr.build 70 #[]) w3 fun v1 =>
 ∃ x25 : Int, ∃ x25v1 : Int, ∃ x25v2 : Int, ∃ x25v3 : Int, ∃ x25v4 : Int, ∃ (x25v5 : Option Addr) (x25N x25C : Nat), ∃ (x25v6 : Option Addr) (x25N1 x25C1 : Nat), v1 = (.agg #[(.int .u16 x25), (.int .u16 x25v1), (.int .u32 x25v2), (.int .u32 x25v3), (.int .u8 x25v4), (.slice x25v5 x25N x25C), (.slice x25v6 x25N1 x25C1)]) ∧
 (RUNU PG (storeVar 70 a2 (.agg #[(.int .u16 x25), (.int .u16 x25v1), (.int .u32 x25v2), (.int .u32 x25v3), (.int .u8 x25v4), (.slice x25v5 x25N x25C), (.slice x25v6 x25N1 x25C1)])) w3 fun w4 =>
 RD PG (loadVar 70 a2) w4 fun v3 =>
 ∃ r : Int, ∃ r1 : Int, ∃ r2 : Int, ∃ r3 : Int, ∃ r4 : Int, ∃ (r5 : Option Addr) (rN rC : Nat), ∃ (r6 : Option Addr) (rN1 rC1 : Nat), v3 = (.agg #[(.int .u16 r), (.int .u16 r1), (.int .u32 r2), (.int .u32 r3), (.int .u8 r4), (.slice r5 rN rC), (.slice r6 rN1 rC1)]) ∧
 (Q (.tuple #[(.agg #[(.int .u16 r), (.int .u16 r1), (.int .u32 r2), (.int .u32 r3), (.int .u8 r4), (.slice r5 rN rC), (.slice r6 rN1 rC1)]), (.int .i64 (70 : Int))]) w4)))
 (IDX x13 x13N (4 : Int) fun a21 =>
 RDI PG (loadVar 25 (Addr.add a21 (Int.toNat (4 : Int) * 1))) .u64 w3 fun x22 =>
 IFB (decide (x22 > (7 : Int)))
 (RD PG (Instr.build 70 #[]) w3 fun v4 =>
 ∃ x25v7 : Int, ∃ x25v8 : Int, ∃ x25v9 : Int, ∃ x25v10 : Int, ∃ x25v11 : Int, ∃ (x25v12 : Option Addr) (x25N2 x25C2 : Nat), ∃ (x25v13 : Option Addr) (x25N3 x25C3 : Nat), v4 = (.agg #[(.int .u16 x25v7), (.int .u16 x25v8), (.int .u32 x25v9), (.int .u32 x25v10), (.int .u8 x25v11), (.slice x25v12 x25N2 x25C2), (.slice x25v13 x25N3 x25C3)]) ∧
 (RUNU PG (storeVar 70 a2 (.agg #[(.int .u16 x25v7), (.int .u16 x25v8), (.int .u32 x25v9), (.int .u32 x25v10), (.int .u8 x25v11), (.slice x25v12 x25N2 x25C2), (.slice x25v13 x25N3 x25C3)])) w3 fun w5 =>
 RD PG (loadVar 70 a2) w5 fun v6 =>
 ∃ r7 : Int, ∃ r8 : Int, ∃ r9 : Int, ∃ r10 : Int, ∃ r11 : Int, ∃ (r12 : Option Addr) (rN2 rC2 : Nat), ∃ (r13 : Option Addr) (rN3 rC3 : Nat), v6 = (.agg #[(.int .u16 r7), (.int .u16 r8), (.int .u32 r9), (.int .u32 r10), (.int .u8 r11), (.slice r12 rN2 rC2), (.slice r13 rN3 rC3)]) ∧
 (Q (.tuple #[(.agg #[(.int .u16 r7), (.int .u16 r8), (.int .u32 r9), (.int .u32 r10), (.int .u8 r11), (.slice r12 rN2 rC2), (.slice r13 rN3 rC3)]), (.int .i64 (70 : Int))]) w5)))
 (∃ S : World → Prop, S (w3.drew) ∧
 (IDX x13 x13N (0 : Int) fun a27 =>
 RDSI PG (loadVar 25 (Addr.add a27 (Int.toNat (0 : Int) * 1))) .u64 S fun x28 =>
 IDX x13 x13N (1 : Int) fun a31 =>
 RDSI PG (loadVar 25 (Addr.add a31 (Int.toNat (1 : Int) * 1))) .u64 S fun x32 =>
 IDX x13 x13N (2 : Int) fun a35 =>
 RDSI PG (loadVar 25 (Addr.add a35 (Int.toNat (2 : Int) * 1))) .u64 S fun x36 =>
 IDX x13 x13N (3 : Int) fun a39 =>
 RDSI PG (loadVar 25 (Addr.add a39 (Int.toNat (3 : Int) * 1))) .u64 S fun x40 =>
 IDX x13 x13N (4 : Int) fun a43 =>
 RDSI PG (loadVar 25 (Addr.add a43 (Int.toNat (4 : Int) * 1))) .u64 S fun x44 =>
 RDS PG (Instr.build 70 #[(0, (.int .u16 (IntKind.u16.wrap x28))), (1, (.int .u16 (IntKind.u16.wrap x32))), (2, (.int .u32 (IntKind.u32.wrap x36))), (3, (.int .u32 (IntKind.u32.wrap x40))), (4, (.int .u8 (IntKind.u8.wrap x44)))]) S fun v7 =>
 ∃ x46 : Int, ∃ x46v1 : Int, ∃ x46v2 : Int, ∃ x46v3 : Int, ∃ x46v4 : Int, ∃ (x46v5 : Option Addr) (x46N x46C : Nat), ∃ (x46v6 : Option Addr) (x46N1 x46C1 : Nat), v7 = (.agg #[(.int .u16 x46), (.int .u16 x46v1), (.int .u32 x46v2), (.int .u32 x46v3), (.int .u8 x46v4), (.slice x46v5 x46N x46C), (.slice x46v6 x46N1 x46C1)]) ∧
 (RUNA PG (Instr.alloc 70 true (.tuple #[])) (w3.drew) fun a7 w6 =>
 ∃ S1 : World → Prop, (∀ x, S1 x → S x) ∧ S1 w6 ∧
 (RUNU PG (storeVar 70 a7 (.agg #[(.int .u16 x46), (.int .u16 x46v1), (.int .u32 x46v2), (.int .u32 x46v3), (.int .u8 x46v4), (.slice x46v5 x46N x46C), (.slice x46v6 x46N1 x46C1)])) w6 fun w7 =>
 IDX x13 x13N (5 : Int) fun a48 =>
 RDI PG (loadVar 25 (Addr.add a48 (Int.toNat (5 : Int) * 1))) .u64 w7 fun x49 =>
 LETI (IntKind.i64.wrap x49) fun n =>
 IFB (decide (n > (200 : Int)))
 (RD PG (Instr.build 70 #[]) w7 fun v8 =>
 ∃ x59 : Int, ∃ x59v1 : Int, ∃ x59v2 : Int, ∃ x59v3 : Int, ∃ x59v4 : Int, ∃ (x59v5 : Option Addr) (x59N x59C : Nat), ∃ (x59v6 : Option Addr) (x59N1 x59C1 : Nat), v8 = (.agg #[(.int .u16 x59), (.int .u16 x59v1), (.int .u32 x59v2), (.int .u32 x59v3), (.int .u8 x59v4), (.slice x59v5 x59N x59C), (.slice x59v6 x59N1 x59C1)]) ∧
 (RUNU PG (storeVar 70 a2 (.agg #[(.int .u16 x59), (.int .u16 x59v1), (.int .u32 x59v2), (.int .u32 x59v3), (.int .u8 x59v4), (.slice x59v5 x59N x59C), (.slice x59v6 x59N1 x59C1)])) w7 fun w8 =>
 RD PG (loadVar 70 a2) w8 fun v10 =>
 ∃ r14 : Int, ∃ r15 : Int, ∃ r16 : Int, ∃ r17 : Int, ∃ r18 : Int, ∃ (r19 : Option Addr) (rN4 rC4 : Nat), ∃ (r20 : Option Addr) (rN5 rC5 : Nat), v10 = (.agg #[(.int .u16 r14), (.int .u16 r15), (.int .u32 r16), (.int .u32 r17), (.int .u8 r18), (.slice r19 rN4 rC4), (.slice r20 rN5 rC5)]) ∧
 (Q (.tuple #[(.agg #[(.int .u16 r14), (.int .u16 r15), (.int .u32 r16), (.int .u32 r17), (.int .u8 r18), (.slice r19 rN4 rC4), (.slice r20 rN5 rC5)]), (.int .i64 (71 : Int))]) w8)))
 (IFB (decide (n > (x13N1 : Int)))
 (RD PG (Instr.build 70 #[]) w7 fun v11 =>
 ∃ x59v7 : Int, ∃ x59v8 : Int, ∃ x59v9 : Int, ∃ x59v10 : Int, ∃ x59v11 : Int, ∃ (x59v12 : Option Addr) (x59N2 x59C2 : Nat), ∃ (x59v13 : Option Addr) (x59N3 x59C3 : Nat), v11 = (.agg #[(.int .u16 x59v7), (.int .u16 x59v8), (.int .u32 x59v9), (.int .u32 x59v10), (.int .u8 x59v11), (.slice x59v12 x59N2 x59C2), (.slice x59v13 x59N3 x59C3)]) ∧
 (RUNU PG (storeVar 70 a2 (.agg #[(.int .u16 x59v7), (.int .u16 x59v8), (.int .u32 x59v9), (.int .u32 x59v10), (.int .u8 x59v11), (.slice x59v12 x59N2 x59C2), (.slice x59v13 x59N3 x59C3)])) w7 fun w9 =>
 RD PG (loadVar 70 a2) w9 fun v13 =>
 ∃ r21 : Int, ∃ r22 : Int, ∃ r23 : Int, ∃ r24 : Int, ∃ r25 : Int, ∃ (r26 : Option Addr) (rN6 rC6 : Nat), ∃ (r27 : Option Addr) (rN7 rC7 : Nat), v13 = (.agg #[(.int .u16 r21), (.int .u16 r22), (.int .u32 r23), (.int .u32 r24), (.int .u8 r25), (.slice r26 rN6 rC6), (.slice r27 rN7 rC7)]) ∧
 (Q (.tuple #[(.agg #[(.int .u16 r21), (.int .u16 r22), (.int .u32 r23), (.int .u32 r24), (.int .u8 r25), (.slice r26 rN6 rC6), (.slice r27 rN7 rC7)]), (.int .i64 (71 : Int))]) w9)))
 (RDL PG (Instr.sliceAt 64 (.slice x13v1 x13N1 x13C1) none (some (.int .i64 n)) (some (.int .i64 n))) w7 fun x64 x64N x64C =>
 CALL PG 72 [(.slice x64 x64N x64C)] w7 fun v14 w10 =>
 ∃ (x65 : Option Addr) (x65N x65C : Nat), ∃ x65v1 : Bool, v14 = (.tuple #[(.slice x65 x65N x65C), (.bool x65v1)]) ∧
 (LETB x65v1 fun okv1 =>
 IFB (!okv1)
 (RD PG (Instr.build 70 #[]) w10 fun v15 =>
 ∃ x70 : Int, ∃ x70v1 : Int, ∃ x70v2 : Int, ∃ x70v3 : Int, ∃ x70v4 : Int, ∃ (x70v5 : Option Addr) (x70N x70C : Nat), ∃ (x70v6 : Option Addr) (x70N1 x70C1 : Nat), v15 = (.agg #[(.int .u16 x70), (.int .u16 x70v1), (.int .u32 x70v2), (.int .u32 x70v3), (.int .u8 x70v4), (.slice x70v5 x70N x70C), (.slice x70v6 x70N1 x70C1)]) ∧
 (RUNU PG (storeVar 70 a2 (.agg #[(.int .u16 x70), (.int .u16 x70v1), (.int .u32 x70v2), (.int .u32 x70v3), (.int .u8 x70v4), (.slice x70v5 x70N x70C), (.slice x70v6 x70N1 x70C1)])) w10 fun w11 =>
 RD PG (loadVar 70 a2) w11 fun v17 =>
 ∃ r28 : Int, ∃ r29 : Int, ∃ r30 : Int, ∃ r31 : Int, ∃ r32 : Int, ∃ (r33 : Option Addr) (rN8 rC8 : Nat), ∃ (r34 : Option Addr) (rN9 rC9 : Nat), v17 = (.agg #[(.int .u16 r28), (.int .u16 r29), (.int .u32 r30), (.int .u32 r31), (.int .u8 r32), (.slice r33 rN8 rC8), (.slice r34 rN9 rC9)]) ∧
 (Q (.tuple #[(.agg #[(.int .u16 r28), (.int .u16 r29), (.int .u32 r30), (.int .u32 r31), (.int .u8 r32), (.slice r33 rN8 rC8), (.slice r34 rN9 rC9)]), (.int .i64 (71 : Int))]) w11)))
 (IFB (decide ((IntKind.i64.wrap ((x13N1 : Int) - n)) > (1024 : Int)))
 (RD PG (Instr.build 70 #[]) w10 fun v18 =>
 ∃ x76 : Int, ∃ x76v1 : Int, ∃ x76v2 : Int, ∃ x76v3 : Int, ∃ x76v4 : Int, ∃ (x76v5 : Option Addr) (x76N x76C : Nat), ∃ (x76v6 : Option Addr) (x76N1 x76C1 : Nat), v18 = (.agg #[(.int .u16 x76), (.int .u16 x76v1), (.int .u32 x76v2), (.int .u32 x76v3), (.int .u8 x76v4), (.slice x76v5 x76N x76C), (.slice x76v6 x76N1 x76C1)]) ∧
 (RUNU PG (storeVar 70 a2 (.agg #[(.int .u16 x76), (.int .u16 x76v1), (.int .u32 x76v2), (.int .u32 x76v3), (.int .u8 x76v4), (.slice x76v5 x76N x76C), (.slice x76v6 x76N1 x76C1)])) w10 fun w12 =>
 RD PG (loadVar 70 a2) w12 fun v20 =>
 ∃ r35 : Int, ∃ r36 : Int, ∃ r37 : Int, ∃ r38 : Int, ∃ r39 : Int, ∃ (r40 : Option Addr) (rN10 rC10 : Nat), ∃ (r41 : Option Addr) (rN11 rC11 : Nat), v20 = (.agg #[(.int .u16 r35), (.int .u16 r36), (.int .u32 r37), (.int .u32 r38), (.int .u8 r39), (.slice r40 rN10 rC10), (.slice r41 rN11 rC11)]) ∧
 (Q (.tuple #[(.agg #[(.int .u16 r35), (.int .u16 r36), (.int .u32 r37), (.int .u32 r38), (.int .u8 r39), (.slice r40 rN10 rC10), (.slice r41 rN11 rC11)]), (.int .i64 (72 : Int))]) w12)))
 (NEED (0 ≤ n ∧ n ≤ ((x13N1 : Nat) : Int) ∧ ((x13N1 : Nat) : Int) ≤ ((x13C1 : Nat) : Int))
 (RUNL PG (Builtin.append_ #[64, 64] 64 #[(.slice none 0 0), (.slice (cutA x13v1 x13C1 1 n) (Int.toNat ((x13N1 : Nat) : Int) - Int.toNat n) (x13C1 - Int.toNat n))]) w10 fun x81 x81N x81C w13 =>
 RUNU PG (storeVar 68 (Addr.add a7 5) (.slice x65 x65N x65C)) w13 fun w14 =>
 RUNU PG (storeVar 64 (Addr.add a7 6) (.slice x81 x81N x81C)) w14 fun w15 =>
 RD PG (loadVar 70 a7) w15 fun v21 =>
 ∃ x84 : Int, ∃ x84v1 : Int, ∃ x84v2 : Int, ∃ x84v3 : Int, ∃ x84v4 : Int, ∃ (x84v5 : Option Addr) (x84N x84C : Nat), ∃ (x84v6 : Option Addr) (x84N1 x84C1 : Nat), v21 = (.agg #[(.int .u16 x84), (.int .u16 x84v1), (.int .u32 x84v2), (.int .u32 x84v3), (.int .u8 x84v4), (.slice x84v5 x84N x84C), (.slice x84v6 x84N1 x84C1)]) ∧
 (RUNU PG (storeVar 70 a2 (.agg #[(.int .u16 x84), (.int .u16 x84v1), (.int .u32 x84v2), (.int .u32 x84v3), (.int .u8 x84v4), (.slice x84v5 x84N x84C), (.slice x84v6 x84N1 x84C1)])) w15 fun w16 =>
 RD PG (loadVar 70 a2) w16 fun v23 =>
 ∃ r42 : Int, ∃ r43 : Int, ∃ r44 : Int, ∃ r45 : Int, ∃ r46 : Int, ∃ (r47 : Option Addr) (rN12 rC12 : Nat), ∃ (r48 : Option Addr) (rN13 rC13 : Nat), v23 = (.agg #[(.int .u16 r42), (.int .u16 r43), (.int .u32 r44), (.int .u32 r45), (.int .u8 r46), (.slice r47 rN12 rC12), (.slice r48 rN13 rC13)]) ∧
 (Q (.tuple #[(.agg #[(.int .u16 r42), (.int .u16 r43), (.int .u32 r44), (.int .u32 r45), (.int .u8 r46), (.slice r47 rN12 rC12), (.slice r48 rN13 rC13)]), (.int .i64 (0 : Int))]) w16))))))))))))))
theorem eq47 : ∀ (b : Option Addr) (bN bC : Nat) (w : World) (Q : Value → World → Prop), vcF PG TB Tryz.f47 .nil [(.slice b bN bC)] w Q = N47 b bN bC w Q := by intros; kernel_rfl
theorem call47 {b : Option Addr} {bN bC : Nat} {w : World} {Q : Value → World → Prop} (hN : N47 b bN bC w Q) : CALL PG 47 [(.slice b bN bC)] w Q := calls_vc tabOk Tryz.func47 (by rw [eq47]; exact hN)

/-- brougham/pack.Get -/
def N71 (b : Option Addr) (bN bC : Nat) (sizes : Option Addr) (sizesN sizesC : Nat) (w : World) (Q : Value → World → Prop) : Prop :=
 ∃ I : Nat → Option Addr → Nat → Nat → Option Addr → Nat → Nat → Int → World → Prop,
 (∃ m, I m b bN bC none 0 0 (0 : Int) w) ∧
 (∀ m1 (b1 : Option Addr) (bN1 bC1 : Nat) (out : Option Addr) (outN outC : Nat) (x15 : Int) (w1 : World), I m1 b1 bN1 bC1 out outN outC x15 w1 → (IFB (decide (x15 < (sizesN : Int)))
 (IDX sizes sizesN x15 fun a17 =>
 RDI PG (loadVar 3 (Addr.add a17 (Int.toNat x15 * 1))) .i64 w1 fun x18 =>
 LETI x18 fun n =>
 IFB (decide (n < (1 : Int)))
 (Q (.tuple #[(.slice none 0 0), (.slice none 0 0), (.bool false)]) w1)
 (IFB (decide (n > (8 : Int)))
 (Q (.tuple #[(.slice none 0 0), (.slice none 0 0), (.bool false)]) w1)
 (IFB (decide (n > (bN1 : Int)))
 (Q (.tuple #[(.slice none 0 0), (.slice none 0 0), (.bool false)]) w1)
 (NEED (0 ≤ (0 : Int) ∧ (0 : Int) ≤ n ∧ n ≤ ((bC1 : Nat) : Int))
 (∃ I1 : Nat → Int → Int → World → Prop,
 (∃ m2, I1 m2 (0 : Int) (0 : Int) w1) ∧
 (∀ m3 (x : Int) (x35 : Int) (w2 : World), I1 m3 x x35 w2 → (IFB (decide (x35 < (((Int.toNat n - Int.toNat (0 : Int)) : Nat) : Int)))
 (IDX (cutA b1 bC1 1 (0 : Int)) (Int.toNat n - Int.toNat (0 : Int)) x35 fun a37 =>
 RDI PG (loadVar 5 (Addr.add a37 (Int.toNat x35 * 1))) .u8 w2 fun x38 =>
 LETI x38 fun c =>
 NEED (0 ≤ (8 : Int))
 (LETI (IntKind.u64.wrap (BitVec.ofInt (IntKind.u64.bits) (shlN .u64 x (8 : Int)) ||| BitVec.ofInt (IntKind.u64.bits) (IntKind.u64.wrap c)).toNat) fun x1 =>
 ∃ m4, m4 < m3 ∧ I1 m4 x1 (IntKind.i64.wrap (x35 + (1 : Int))) w2))
 (RUNL PG (Instr.buildSlice 76 1 #[(0, (.int .u64 x))]) w2 fun x47 x47N x47C w3 =>
 RUNL PG (Builtin.append_ #[76, 76] 76 #[(.slice out outN outC), (.slice x47 x47N x47C)]) w3 fun x48 x48N x48C w4 =>
 NEED (0 ≤ n ∧ n ≤ ((bN1 : Nat) : Int) ∧ ((bN1 : Nat) : Int) ≤ ((bC1 : Nat) : Int))
 (∃ m5, m5 < m1 ∧ I m5 (cutA b1 bC1 1 n) (Int.toNat ((bN1 : Nat) : Int) - Int.toNat n) (bC1 - Int.toNat n) x48 x48N x48C (IntKind.i64.wrap (x15 + (1 : Int))) w4)))))))))
 (RUNL PG (Builtin.append_ #[64, 64] 64 #[(.slice none 0 0), (.slice b1 bN1 bC1)]) w1 fun x55 x55N x55C w5 =>
 Q (.tuple #[(.slice out outN outC), (.slice x55 x55N x55C), (.bool true)]) w5)))
theorem eq71 : ∀ (b : Option Addr) (bN bC : Nat) (sizes : Option Addr) (sizesN sizesC : Nat) (w : World) (Q : Value → World → Prop), vcF PG TB Tryz.f71 (.s .nil (.s .nil (.s (.s .nil (.u (.loop [(0, 64), (7, 76), (15, 3)] (.s .nil (.s .nil (.s (.u (.s .nil (.s .nil (.s .nil (.s (.s .nil (.u (.loop [(10, 25), (35, 3)] .nil))) .nil))))) .nil)))))) .nil))) [(.slice b bN bC), (.slice sizes sizesN sizesC)] w Q = N71 b bN bC sizes sizesN sizesC w Q := by intros; kernel_rfl
theorem call71 {b : Option Addr} {bN bC : Nat} {sizes : Option Addr} {sizesN sizesC : Nat} {w : World} {Q : Value → World → Prop} (hN : N71 b bN bC sizes sizesN sizesC w Q) : CALL PG 71 [(.slice b bN bC), (.slice sizes sizesN sizesC)] w Q := calls_vc tabOk Tryz.func71 (by rw [eq71]; exact hN)

end Go.Br
