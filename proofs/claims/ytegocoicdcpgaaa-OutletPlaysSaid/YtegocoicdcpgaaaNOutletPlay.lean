/- What the code of some functions says, as the core reads it; each reading is checked by the kernel. -/
import Derived.Test.YtegocoicdcpgaaaBrSeat
set_option linter.unusedVariables false
set_option maxRecDepth 100000
namespace Go.Br
open Go Go.Proofs

/-- brougham/broughamref17.At -/
def N58 (sizev : Int) (base : Int) (w : World) (Q : Value → World → Prop) : Prop :=
 RUNA PG (Instr.alloc 93 true (.tuple #[])) w fun a4 w1 =>
 IFB (decide (base > (4611686018427387904 : Int)))
 (RD PG (Instr.build 93 #[]) w1 fun v =>
 ∃ (x8 : Option Addr) (x8N x8C : Nat), ∃ x8v1 : Int, ∃ x8v2 : Int, ∃ x8v3 : Bool, ∃ x8v4 : Bool, v = (.agg #[(.slice x8 x8N x8C), (.int .u64 x8v1), (.int .i64 x8v2), (.bool x8v3), (.bool x8v4)]) ∧
 (RUNU PG (storeVar 93 a4 (.agg #[(.slice x8 x8N x8C), (.int .u64 x8v1), (.int .i64 x8v2), (.bool x8v3), (.bool x8v4)])) w1 fun w2 =>
 RD PG (loadVar 93 a4) w2 fun v2 =>
 ∃ (r : Option Addr) (rN rC : Nat), ∃ r1 : Int, ∃ r2 : Int, ∃ r3 : Bool, ∃ r4 : Bool, v2 = (.agg #[(.slice r rN rC), (.int .u64 r1), (.int .i64 r2), (.bool r3), (.bool r4)]) ∧
 (Q (.tuple #[(.agg #[(.slice r rN rC), (.int .u64 r1), (.int .i64 r2), (.bool r3), (.bool r4)]), (.int .i64 (215 : Int))]) w2)))
 (IFB (decide (sizev < (1 : Int)))
 (RD PG (Instr.build 93 #[]) w1 fun v3 =>
 ∃ (x15 : Option Addr) (x15N x15C : Nat), ∃ x15v1 : Int, ∃ x15v2 : Int, ∃ x15v3 : Bool, ∃ x15v4 : Bool, v3 = (.agg #[(.slice x15 x15N x15C), (.int .u64 x15v1), (.int .i64 x15v2), (.bool x15v3), (.bool x15v4)]) ∧
 (RUNU PG (storeVar 93 a4 (.agg #[(.slice x15 x15N x15C), (.int .u64 x15v1), (.int .i64 x15v2), (.bool x15v3), (.bool x15v4)])) w1 fun w3 =>
 RD PG (loadVar 93 a4) w3 fun v5 =>
 ∃ (r5 : Option Addr) (rN1 rC1 : Nat), ∃ r6 : Int, ∃ r7 : Int, ∃ r8 : Bool, ∃ r9 : Bool, v5 = (.agg #[(.slice r5 rN1 rC1), (.int .u64 r6), (.int .i64 r7), (.bool r8), (.bool r9)]) ∧
 (Q (.tuple #[(.agg #[(.slice r5 rN1 rC1), (.int .u64 r6), (.int .i64 r7), (.bool r8), (.bool r9)]), (.int .i64 (50 : Int))]) w3)))
 (IFB (decide (sizev > (65536 : Int)))
 (RD PG (Instr.build 93 #[]) w1 fun v6 =>
 ∃ (x15v5 : Option Addr) (x15N1 x15C1 : Nat), ∃ x15v6 : Int, ∃ x15v7 : Int, ∃ x15v8 : Bool, ∃ x15v9 : Bool, v6 = (.agg #[(.slice x15v5 x15N1 x15C1), (.int .u64 x15v6), (.int .i64 x15v7), (.bool x15v8), (.bool x15v9)]) ∧
 (RUNU PG (storeVar 93 a4 (.agg #[(.slice x15v5 x15N1 x15C1), (.int .u64 x15v6), (.int .i64 x15v7), (.bool x15v8), (.bool x15v9)])) w1 fun w4 =>
 RD PG (loadVar 93 a4) w4 fun v8 =>
 ∃ (r10 : Option Addr) (rN2 rC2 : Nat), ∃ r11 : Int, ∃ r12 : Int, ∃ r13 : Bool, ∃ r14 : Bool, v8 = (.agg #[(.slice r10 rN2 rC2), (.int .u64 r11), (.int .i64 r12), (.bool r13), (.bool r14)]) ∧
 (Q (.tuple #[(.agg #[(.slice r10 rN2 rC2), (.int .u64 r11), (.int .i64 r12), (.bool r13), (.bool r14)]), (.int .i64 (50 : Int))]) w4)))
 (RD PG (Instr.build 93 #[(2, (.int .i64 sizev)), (1, (.int .u64 base))]) w1 fun v9 =>
 ∃ (x18 : Option Addr) (x18N x18C : Nat), ∃ x18v1 : Int, ∃ x18v2 : Int, ∃ x18v3 : Bool, ∃ x18v4 : Bool, v9 = (.agg #[(.slice x18 x18N x18C), (.int .u64 x18v1), (.int .i64 x18v2), (.bool x18v3), (.bool x18v4)]) ∧
 (RUNU PG (storeVar 93 a4 (.agg #[(.slice x18 x18N x18C), (.int .u64 x18v1), (.int .i64 x18v2), (.bool x18v3), (.bool x18v4)])) w1 fun w5 =>
 RD PG (loadVar 93 a4) w5 fun v11 =>
 ∃ (r15 : Option Addr) (rN3 rC3 : Nat), ∃ r16 : Int, ∃ r17 : Int, ∃ r18 : Bool, ∃ r19 : Bool, v11 = (.agg #[(.slice r15 rN3 rC3), (.int .u64 r16), (.int .i64 r17), (.bool r18), (.bool r19)]) ∧
 (Q (.tuple #[(.agg #[(.slice r15 rN3 rC3), (.int .u64 r16), (.int .i64 r17), (.bool r18), (.bool r19)]), (.int .i64 (0 : Int))]) w5)))))
theorem eq58 : ∀ (sizev : Int) (base : Int) (w : World) (Q : Value → World → Prop), vcF PG TB Try.f58 .nil [(.int .i64 sizev), (.int .u64 base)] w Q = N58 sizev base w Q := by intros; kernel_rfl
theorem call58 {sizev : Int} {base : Int} {w : World} {Q : Value → World → Prop} (hN : N58 sizev base w Q) : CALL PG 58 [(.int .i64 sizev), (.int .u64 base)] w Q := calls_vc tabOk Try.func58 (by rw [eq58]; exact hN)

/-- brougham/broughamref17.End -/
def N60 (o : Option Addr) (oN oC : Nat) (o1 : Int) (o2 : Int) (o3 : Bool) (o4 : Bool) (w : World) (Q : Value → World → Prop) : Prop :=
 RUNA PG (Instr.box 93 (.agg #[(.slice o oN oC), (.int .u64 o1), (.int .i64 o2), (.bool o3), (.bool o4)])) w fun a1 w1 =>
 RDI PG (loadVar 40 (Addr.add a1 1)) .u64 w1 fun x4 =>
 RDL PG (loadVar 28 (Addr.add a1 0)) w1 fun x6 x6N x6C =>
 LETI (IntKind.u64.wrap (x4 + (IntKind.u64.wrap (x6N : Int)))) fun x2 =>
 Q (.int .u64 x2) w1
theorem eq60 : ∀ (o : Option Addr) (oN oC : Nat) (o1 : Int) (o2 : Int) (o3 : Bool) (o4 : Bool) (w : World) (Q : Value → World → Prop), vcF PG TB Try.f60 .nil [(.agg #[(.slice o oN oC), (.int .u64 o1), (.int .i64 o2), (.bool o3), (.bool o4)])] w Q = N60 o oN oC o1 o2 o3 o4 w Q := by intros; kernel_rfl
theorem call60 {o : Option Addr} {oN oC : Nat} {o1 : Int} {o2 : Int} {o3 : Bool} {o4 : Bool} {w : World} {Q : Value → World → Prop} (hN : N60 o oN oC o1 o2 o3 o4 w Q) : CALL PG 60 [(.agg #[(.slice o oN oC), (.int .u64 o1), (.int .i64 o2), (.bool o3), (.bool o4)])] w Q := calls_vc tabOk Try.func60 (by rw [eq60]; exact hN)

/-- brougham/broughamref17.Top -/
def N61 (o : Option Addr) (oN oC : Nat) (o1 : Int) (o2 : Int) (o3 : Bool) (o4 : Bool) (w : World) (Q : Value → World → Prop) : Prop :=
 RUNA PG (Instr.box 93 (.agg #[(.slice o oN oC), (.int .u64 o1), (.int .i64 o2), (.bool o3), (.bool o4)])) w fun a1 w1 =>
 RDB PG (loadVar 4 (Addr.add a1 3)) w1 fun x4 =>
 IFB x4
 (RD PG (loadVar 93 a1) w1 fun v =>
 ∃ (x5 : Option Addr) (x5N x5C : Nat), ∃ x5v1 : Int, ∃ x5v2 : Int, ∃ x5v3 : Bool, ∃ x5v4 : Bool, v = (.agg #[(.slice x5 x5N x5C), (.int .u64 x5v1), (.int .i64 x5v2), (.bool x5v3), (.bool x5v4)]) ∧
 (CALL PG 60 [(.agg #[(.slice x5 x5N x5C), (.int .u64 x5v1), (.int .i64 x5v2), (.bool x5v3), (.bool x5v4)])] w1 fun v1 w2 =>
 ∃ x6 : Int, v1 = (.int .u64 x6) ∧
 (LETI (IntKind.u64.wrap (x6 + (1 : Int))) fun x2 =>
 Q (.int .u64 x2) w2)))
 (RD PG (loadVar 93 a1) w1 fun v2 =>
 ∃ (x8 : Option Addr) (x8N x8C : Nat), ∃ x8v1 : Int, ∃ x8v2 : Int, ∃ x8v3 : Bool, ∃ x8v4 : Bool, v2 = (.agg #[(.slice x8 x8N x8C), (.int .u64 x8v1), (.int .i64 x8v2), (.bool x8v3), (.bool x8v4)]) ∧
 (CALL PG 60 [(.agg #[(.slice x8 x8N x8C), (.int .u64 x8v1), (.int .i64 x8v2), (.bool x8v3), (.bool x8v4)])] w1 fun v3 w3 =>
 ∃ x9 : Int, v3 = (.int .u64 x9) ∧
 (LETI x9 fun x2v1 =>
 Q (.int .u64 x2v1) w3)))
theorem eq61 : ∀ (o : Option Addr) (oN oC : Nat) (o1 : Int) (o2 : Int) (o3 : Bool) (o4 : Bool) (w : World) (Q : Value → World → Prop), vcF PG TB Try.f61 .nil [(.agg #[(.slice o oN oC), (.int .u64 o1), (.int .i64 o2), (.bool o3), (.bool o4)])] w Q = N61 o oN oC o1 o2 o3 o4 w Q := by intros; kernel_rfl
theorem call61 {o : Option Addr} {oN oC : Nat} {o1 : Int} {o2 : Int} {o3 : Bool} {o4 : Bool} {w : World} {Q : Value → World → Prop} (hN : N61 o oN oC o1 o2 o3 o4 w Q) : CALL PG 61 [(.agg #[(.slice o oN oC), (.int .u64 o1), (.int .i64 o2), (.bool o3), (.bool o4)])] w Q := calls_vc tabOk Try.func61 (by rw [eq61]; exact hN)

/-- brougham/broughamref17.Acked -/
def N107 (o : Option Addr) (oN oC : Nat) (o1 : Int) (o2 : Int) (o3 : Bool) (o4 : Bool) (tov : Int) (w : World) (Q : Value → World → Prop) : Prop :=
 RUNA PG (Instr.box 93 (.agg #[(.slice o oN oC), (.int .u64 o1), (.int .i64 o2), (.bool o3), (.bool o4)])) w fun a2 w1 =>
 RUNA PG (Instr.alloc 93 true (.tuple #[])) w1 fun a4 w2 =>
 RDI PG (loadVar 40 (Addr.add a2 1)) .u64 w2 fun x8 =>
 IFB (decide (tov ≤ x8))
 (RD PG (loadVar 93 a2) w2 fun v =>
 ∃ (x20 : Option Addr) (x20N x20C : Nat), ∃ x20v1 : Int, ∃ x20v2 : Int, ∃ x20v3 : Bool, ∃ x20v4 : Bool, v = (.agg #[(.slice x20 x20N x20C), (.int .u64 x20v1), (.int .i64 x20v2), (.bool x20v3), (.bool x20v4)]) ∧
 (RUNU PG (storeVar 93 a4 (.agg #[(.slice x20 x20N x20C), (.int .u64 x20v1), (.int .i64 x20v2), (.bool x20v3), (.bool x20v4)])) w2 fun w3 =>
 RD PG (loadVar 93 a4) w3 fun v2 =>
 ∃ (r : Option Addr) (rN rC : Nat), ∃ r1 : Int, ∃ r2 : Int, ∃ r3 : Bool, ∃ r4 : Bool, v2 = (.agg #[(.slice r rN rC), (.int .u64 r1), (.int .i64 r2), (.bool r3), (.bool r4)]) ∧
 (Q (.tuple #[(.agg #[(.slice r rN rC), (.int .u64 r1), (.int .i64 r2), (.bool r3), (.bool r4)]), (.bool false)]) w3)))
 (RD PG (loadVar 93 a2) w2 fun v3 =>
 ∃ (x12 : Option Addr) (x12N x12C : Nat), ∃ x12v1 : Int, ∃ x12v2 : Int, ∃ x12v3 : Bool, ∃ x12v4 : Bool, v3 = (.agg #[(.slice x12 x12N x12C), (.int .u64 x12v1), (.int .i64 x12v2), (.bool x12v3), (.bool x12v4)]) ∧
 (CALL PG 61 [(.agg #[(.slice x12 x12N x12C), (.int .u64 x12v1), (.int .i64 x12v2), (.bool x12v3), (.bool x12v4)])] w2 fun v4 w4 =>
 ∃ x13 : Int, v4 = (.int .u64 x13) ∧
 (IFB (decide (tov > x13))
 (RD PG (loadVar 93 a2) w4 fun v5 =>
 ∃ (x20v5 : Option Addr) (x20N1 x20C1 : Nat), ∃ x20v6 : Int, ∃ x20v7 : Int, ∃ x20v8 : Bool, ∃ x20v9 : Bool, v5 = (.agg #[(.slice x20v5 x20N1 x20C1), (.int .u64 x20v6), (.int .i64 x20v7), (.bool x20v8), (.bool x20v9)]) ∧
 (RUNU PG (storeVar 93 a4 (.agg #[(.slice x20v5 x20N1 x20C1), (.int .u64 x20v6), (.int .i64 x20v7), (.bool x20v8), (.bool x20v9)])) w4 fun w5 =>
 RD PG (loadVar 93 a4) w5 fun v7 =>
 ∃ (r5 : Option Addr) (rN1 rC1 : Nat), ∃ r6 : Int, ∃ r7 : Int, ∃ r8 : Bool, ∃ r9 : Bool, v7 = (.agg #[(.slice r5 rN1 rC1), (.int .u64 r6), (.int .i64 r7), (.bool r8), (.bool r9)]) ∧
 (Q (.tuple #[(.agg #[(.slice r5 rN1 rC1), (.int .u64 r6), (.int .i64 r7), (.bool r8), (.bool r9)]), (.bool false)]) w5)))
 (RDB PG (loadVar 4 (Addr.add a2 4)) w4 fun x18 =>
 IFB x18
 (RD PG (loadVar 93 a2) w4 fun v8 =>
 ∃ (x20v10 : Option Addr) (x20N2 x20C2 : Nat), ∃ x20v11 : Int, ∃ x20v12 : Int, ∃ x20v13 : Bool, ∃ x20v14 : Bool, v8 = (.agg #[(.slice x20v10 x20N2 x20C2), (.int .u64 x20v11), (.int .i64 x20v12), (.bool x20v13), (.bool x20v14)]) ∧
 (RUNU PG (storeVar 93 a4 (.agg #[(.slice x20v10 x20N2 x20C2), (.int .u64 x20v11), (.int .i64 x20v12), (.bool x20v13), (.bool x20v14)])) w4 fun w6 =>
 RD PG (loadVar 93 a4) w6 fun v10 =>
 ∃ (r10 : Option Addr) (rN2 rC2 : Nat), ∃ r11 : Int, ∃ r12 : Int, ∃ r13 : Bool, ∃ r14 : Bool, v10 = (.agg #[(.slice r10 rN2 rC2), (.int .u64 r11), (.int .i64 r12), (.bool r13), (.bool r14)]) ∧
 (Q (.tuple #[(.agg #[(.slice r10 rN2 rC2), (.int .u64 r11), (.int .i64 r12), (.bool r13), (.bool r14)]), (.bool false)]) w6)))
 (∃ R : Int → World → Prop,
 (RD PG (loadVar 93 a2) w4 fun v11 =>
 ∃ (x22 : Option Addr) (x22N x22C : Nat), ∃ x22v1 : Int, ∃ x22v2 : Int, ∃ x22v3 : Bool, ∃ x22v4 : Bool, v11 = (.agg #[(.slice x22 x22N x22C), (.int .u64 x22v1), (.int .i64 x22v2), (.bool x22v3), (.bool x22v4)]) ∧
 (CALL PG 60 [(.agg #[(.slice x22 x22N x22C), (.int .u64 x22v1), (.int .i64 x22v2), (.bool x22v3), (.bool x22v4)])] w4 fun v12 w7 =>
 ∃ x23 : Int, v12 = (.int .u64 x23) ∧
 (IFB (decide (tov > x23))
 (RUNU PG (storeVar 4 (Addr.add a2 4) (.bool true)) w7 fun w8 =>
 RD PG (loadVar 93 a2) w8 fun v13 =>
 ∃ (x26 : Option Addr) (x26N x26C : Nat), ∃ x26v1 : Int, ∃ x26v2 : Int, ∃ x26v3 : Bool, ∃ x26v4 : Bool, v13 = (.agg #[(.slice x26 x26N x26C), (.int .u64 x26v1), (.int .i64 x26v2), (.bool x26v3), (.bool x26v4)]) ∧
 (CALL PG 60 [(.agg #[(.slice x26 x26N x26C), (.int .u64 x26v1), (.int .i64 x26v2), (.bool x26v3), (.bool x26v4)])] w8 fun v14 w9 =>
 ∃ x27 : Int, v14 = (.int .u64 x27) ∧
 (LETI x27 fun tov1 =>
 R tov1 w9)))
 (R tov w7)))) ∧
 (∀ (tov2 : Int) (w10 : World), R tov2 w10 → (RUNL PG (Instr.buildSlice 28 0 #[]) w10 fun x28 x28N x28C w11 =>
 RDL PG (loadVar 28 (Addr.add a2 0)) w11 fun x30 x30N x30C =>
 RDI PG (loadVar 40 (Addr.add a2 1)) .u64 w11 fun x33 =>
 NEED (0 ≤ (IntKind.u64.wrap (tov2 - x33)) ∧ (IntKind.u64.wrap (tov2 - x33)) ≤ ((x30N : Nat) : Int) ∧ ((x30N : Nat) : Int) ≤ ((x30C : Nat) : Int))
 (RUNL PG (Builtin.append_ #[28, 28] 28 #[(.slice x28 x28N x28C), (.slice (cutA x30 x30C 1 (IntKind.u64.wrap (tov2 - x33))) (Int.toNat ((x30N : Nat) : Int) - Int.toNat (IntKind.u64.wrap (tov2 - x33))) (x30C - Int.toNat (IntKind.u64.wrap (tov2 - x33))))]) w11 fun x36 x36N x36C w12 =>
 RUNU PG (storeVar 28 (Addr.add a2 0) (.slice x36 x36N x36C)) w12 fun w13 =>
 RUNU PG (storeVar 40 (Addr.add a2 1) (.int .u64 tov2)) w13 fun w14 =>
 RD PG (loadVar 93 a2) w14 fun v15 =>
 ∃ (x40 : Option Addr) (x40N x40C : Nat), ∃ x40v1 : Int, ∃ x40v2 : Int, ∃ x40v3 : Bool, ∃ x40v4 : Bool, v15 = (.agg #[(.slice x40 x40N x40C), (.int .u64 x40v1), (.int .i64 x40v2), (.bool x40v3), (.bool x40v4)]) ∧
 (RUNU PG (storeVar 93 a4 (.agg #[(.slice x40 x40N x40C), (.int .u64 x40v1), (.int .i64 x40v2), (.bool x40v3), (.bool x40v4)])) w14 fun w15 =>
 RD PG (loadVar 93 a4) w15 fun v17 =>
 ∃ (r15 : Option Addr) (rN3 rC3 : Nat), ∃ r16 : Int, ∃ r17 : Int, ∃ r18 : Bool, ∃ r19 : Bool, v17 = (.agg #[(.slice r15 rN3 rC3), (.int .u64 r16), (.int .i64 r17), (.bool r18), (.bool r19)]) ∧
 (Q (.tuple #[(.agg #[(.slice r15 rN3 rC3), (.int .u64 r16), (.int .i64 r17), (.bool r18), (.bool r19)]), (.bool true)]) w15))))))))))
theorem eq107 : ∀ (o : Option Addr) (oN oC : Nat) (o1 : Int) (o2 : Int) (o3 : Bool) (o4 : Bool) (tov : Int) (w : World) (Q : Value → World → Prop), vcF PG TB Try.f107 (.s .nil (.s .nil (.cut [(1, 40)] .nil .nil))) [(.agg #[(.slice o oN oC), (.int .u64 o1), (.int .i64 o2), (.bool o3), (.bool o4)]), (.int .u64 tov)] w Q = N107 o oN oC o1 o2 o3 o4 tov w Q := by intros; kernel_rfl
theorem call107 {o : Option Addr} {oN oC : Nat} {o1 : Int} {o2 : Int} {o3 : Bool} {o4 : Bool} {tov : Int} {w : World} {Q : Value → World → Prop} (hN : N107 o oN oC o1 o2 o3 o4 tov w Q) : CALL PG 107 [(.agg #[(.slice o oN oC), (.int .u64 o1), (.int .i64 o2), (.bool o3), (.bool o4)]), (.int .u64 tov)] w Q := calls_vc tabOk Try.func107 (by rw [eq107]; exact hN)

/-- brougham/broughamref17.Bytes -/
def N108 (o : Option Addr) (oN oC : Nat) (o1 : Int) (o2 : Int) (o3 : Bool) (o4 : Bool) (fromv : Int) (many : Int) (w : World) (Q : Value → World → Prop) : Prop :=
 RUNA PG (Instr.box 93 (.agg #[(.slice o oN oC), (.int .u64 o1), (.int .i64 o2), (.bool o3), (.bool o4)])) w fun a3 w1 =>
 RDI PG (loadVar 40 (Addr.add a3 1)) .u64 w1 fun x11 =>
 IFB (decide (fromv < x11))
 (Q (.slice none 0 0) w1)
 (RD PG (loadVar 93 a3) w1 fun v =>
 ∃ (x15 : Option Addr) (x15N x15C : Nat), ∃ x15v1 : Int, ∃ x15v2 : Int, ∃ x15v3 : Bool, ∃ x15v4 : Bool, v = (.agg #[(.slice x15 x15N x15C), (.int .u64 x15v1), (.int .i64 x15v2), (.bool x15v3), (.bool x15v4)]) ∧
 (CALL PG 60 [(.agg #[(.slice x15 x15N x15C), (.int .u64 x15v1), (.int .i64 x15v2), (.bool x15v3), (.bool x15v4)])] w1 fun v1 w2 =>
 ∃ x16 : Int, v1 = (.int .u64 x16) ∧
 (IFB (decide (fromv > x16))
 (Q (.slice none 0 0) w2)
 (RDI PG (loadVar 40 (Addr.add a3 1)) .u64 w2 fun x21 =>
 LETI (IntKind.u64.wrap (fromv - x21)) fun i =>
 ∃ I : Nat → Option Addr → Nat → Nat → Int → World → Prop,
 (∃ m, I m none 0 0 i w2) ∧
 (∀ m1 (out : Option Addr) (outN outC : Nat) (i1 : Int) (w3 : World), I m1 out outN outC i1 w3 → (RDL PG (loadVar 28 (Addr.add a3 0)) w3 fun x25 x25N x25C =>
 IFB (decide (i1 < (IntKind.u64.wrap (x25N : Int))))
 (IFB (decide ((outN : Int) < many))
 (RDL PG (loadVar 28 (Addr.add a3 0)) w3 fun x39 x39N x39C =>
 IDX x39 x39N i1 fun a41 =>
 RDI PG (loadVar 5 (Addr.add a41 (Int.toNat i1 * 1))) .u8 w3 fun x42 =>
 RUNL PG (Instr.buildSlice 28 1 #[(0, (.int .u8 x42))]) w3 fun x43 x43N x43C w4 =>
 RUNL PG (Builtin.append_ #[28, 28] 28 #[(.slice out outN outC), (.slice x43 x43N x43C)]) w4 fun x44 x44N x44C w5 =>
 LETI (IntKind.u64.wrap (i1 + (1 : Int))) fun i2 =>
 ∃ m2, m2 < m1 ∧ I m2 x44 x44N x44C i2 w5)
 (Q (.slice out outN outC) w3))
 (Q (.slice out outN outC) w3)))))))
theorem eq108 : ∀ (o : Option Addr) (oN oC : Nat) (o1 : Int) (o2 : Int) (o3 : Bool) (o4 : Bool) (fromv : Int) (many : Int) (w : World) (Q : Value → World → Prop), vcF PG TB Try.f108 (.s .nil (.s .nil (.s .nil (.s (.s .nil (.u (.loop [(7, 28), (8, 40)] .nil))) .nil)))) [(.agg #[(.slice o oN oC), (.int .u64 o1), (.int .i64 o2), (.bool o3), (.bool o4)]), (.int .u64 fromv), (.int .i64 many)] w Q = N108 o oN oC o1 o2 o3 o4 fromv many w Q := by intros; kernel_rfl
theorem call108 {o : Option Addr} {oN oC : Nat} {o1 : Int} {o2 : Int} {o3 : Bool} {o4 : Bool} {fromv : Int} {many : Int} {w : World} {Q : Value → World → Prop} (hN : N108 o oN oC o1 o2 o3 o4 fromv many w Q) : CALL PG 108 [(.agg #[(.slice o oN oC), (.int .u64 o1), (.int .i64 o2), (.bool o3), (.bool o4)]), (.int .u64 fromv), (.int .i64 many)] w Q := calls_vc tabOk Try.func108 (by rw [eq108]; exact hN)

/-- brougham/broughamref17.Put -/
def N109 (o : Option Addr) (oN oC : Nat) (o1 : Int) (o2 : Int) (o3 : Bool) (o4 : Bool) (b : Option Addr) (bN bC : Nat) (w : World) (Q : Value → World → Prop) : Prop :=
 RUNA PG (Instr.box 93 (.agg #[(.slice o oN oC), (.int .u64 o1), (.int .i64 o2), (.bool o3), (.bool o4)])) w fun a2 w1 =>
 RUNA PG (Instr.alloc 93 true (.tuple #[])) w1 fun a4 w2 =>
 RDB PG (loadVar 4 (Addr.add a2 3)) w2 fun x9 =>
 IFB x9
 (RD PG (loadVar 93 a2) w2 fun v =>
 ∃ (x10 : Option Addr) (x10N x10C : Nat), ∃ x10v1 : Int, ∃ x10v2 : Int, ∃ x10v3 : Bool, ∃ x10v4 : Bool, v = (.agg #[(.slice x10 x10N x10C), (.int .u64 x10v1), (.int .i64 x10v2), (.bool x10v3), (.bool x10v4)]) ∧
 (RUNU PG (storeVar 93 a4 (.agg #[(.slice x10 x10N x10C), (.int .u64 x10v1), (.int .i64 x10v2), (.bool x10v3), (.bool x10v4)])) w2 fun w3 =>
 RD PG (loadVar 93 a4) w3 fun v2 =>
 ∃ (r : Option Addr) (rN rC : Nat), ∃ r1 : Int, ∃ r2 : Int, ∃ r3 : Bool, ∃ r4 : Bool, v2 = (.agg #[(.slice r rN rC), (.int .u64 r1), (.int .i64 r2), (.bool r3), (.bool r4)]) ∧
 (Q (.tuple #[(.agg #[(.slice r rN rC), (.int .u64 r1), (.int .i64 r2), (.bool r3), (.bool r4)]), (.int .i64 (0 : Int)), (.int .i64 (212 : Int))]) w3)))
 (IFB ((bN : Int) == (0 : Int))
 (RD PG (loadVar 93 a2) w2 fun v3 =>
 ∃ (x14 : Option Addr) (x14N x14C : Nat), ∃ x14v1 : Int, ∃ x14v2 : Int, ∃ x14v3 : Bool, ∃ x14v4 : Bool, v3 = (.agg #[(.slice x14 x14N x14C), (.int .u64 x14v1), (.int .i64 x14v2), (.bool x14v3), (.bool x14v4)]) ∧
 (RUNU PG (storeVar 93 a4 (.agg #[(.slice x14 x14N x14C), (.int .u64 x14v1), (.int .i64 x14v2), (.bool x14v3), (.bool x14v4)])) w2 fun w4 =>
 RD PG (loadVar 93 a4) w4 fun v5 =>
 ∃ (r5 : Option Addr) (rN1 rC1 : Nat), ∃ r6 : Int, ∃ r7 : Int, ∃ r8 : Bool, ∃ r9 : Bool, v5 = (.agg #[(.slice r5 rN1 rC1), (.int .u64 r6), (.int .i64 r7), (.bool r8), (.bool r9)]) ∧
 (Q (.tuple #[(.agg #[(.slice r5 rN1 rC1), (.int .u64 r6), (.int .i64 r7), (.bool r8), (.bool r9)]), (.int .i64 (0 : Int)), (.int .i64 (0 : Int))]) w4)))
 (RD PG (loadVar 93 a2) w2 fun v6 =>
 ∃ (x15 : Option Addr) (x15N x15C : Nat), ∃ x15v1 : Int, ∃ x15v2 : Int, ∃ x15v3 : Bool, ∃ x15v4 : Bool, v6 = (.agg #[(.slice x15 x15N x15C), (.int .u64 x15v1), (.int .i64 x15v2), (.bool x15v3), (.bool x15v4)]) ∧
 (CALL PG 60 [(.agg #[(.slice x15 x15N x15C), (.int .u64 x15v1), (.int .i64 x15v2), (.bool x15v3), (.bool x15v4)])] w2 fun v7 w5 =>
 ∃ x16 : Int, v7 = (.int .u64 x16) ∧
 (IFB (x16 == (4611686018427387904 : Int))
 (RD PG (loadVar 93 a2) w5 fun v8 =>
 ∃ (x18 : Option Addr) (x18N x18C : Nat), ∃ x18v1 : Int, ∃ x18v2 : Int, ∃ x18v3 : Bool, ∃ x18v4 : Bool, v8 = (.agg #[(.slice x18 x18N x18C), (.int .u64 x18v1), (.int .i64 x18v2), (.bool x18v3), (.bool x18v4)]) ∧
 (RUNU PG (storeVar 93 a4 (.agg #[(.slice x18 x18N x18C), (.int .u64 x18v1), (.int .i64 x18v2), (.bool x18v3), (.bool x18v4)])) w5 fun w6 =>
 RD PG (loadVar 93 a4) w6 fun v10 =>
 ∃ (r10 : Option Addr) (rN2 rC2 : Nat), ∃ r11 : Int, ∃ r12 : Int, ∃ r13 : Bool, ∃ r14 : Bool, v10 = (.agg #[(.slice r10 rN2 rC2), (.int .u64 r11), (.int .i64 r12), (.bool r13), (.bool r14)]) ∧
 (Q (.tuple #[(.agg #[(.slice r10 rN2 rC2), (.int .u64 r11), (.int .i64 r12), (.bool r13), (.bool r14)]), (.int .i64 (0 : Int)), (.int .i64 (215 : Int))]) w6)))
 (RDL PG (loadVar 28 (Addr.add a2 0)) w5 fun x20 x20N x20C =>
 RDI PG (loadVar 3 (Addr.add a2 2)) .i64 w5 fun x23 =>
 IFB ((x20N : Int) == x23)
 (RD PG (loadVar 93 a2) w5 fun v11 =>
 ∃ (x25 : Option Addr) (x25N x25C : Nat), ∃ x25v1 : Int, ∃ x25v2 : Int, ∃ x25v3 : Bool, ∃ x25v4 : Bool, v11 = (.agg #[(.slice x25 x25N x25C), (.int .u64 x25v1), (.int .i64 x25v2), (.bool x25v3), (.bool x25v4)]) ∧
 (RUNU PG (storeVar 93 a4 (.agg #[(.slice x25 x25N x25C), (.int .u64 x25v1), (.int .i64 x25v2), (.bool x25v3), (.bool x25v4)])) w5 fun w7 =>
 RD PG (loadVar 93 a4) w7 fun v13 =>
 ∃ (r15 : Option Addr) (rN3 rC3 : Nat), ∃ r16 : Int, ∃ r17 : Int, ∃ r18 : Bool, ∃ r19 : Bool, v13 = (.agg #[(.slice r15 rN3 rC3), (.int .u64 r16), (.int .i64 r17), (.bool r18), (.bool r19)]) ∧
 (Q (.tuple #[(.agg #[(.slice r15 rN3 rC3), (.int .u64 r16), (.int .i64 r17), (.bool r18), (.bool r19)]), (.int .i64 (0 : Int)), (.int .i64 (210 : Int))]) w7)))
 (LETI (bN : Int) fun n =>
 ∃ R : Int → World → Prop,
 (RDI PG (loadVar 3 (Addr.add a2 2)) .i64 w5 fun x30 =>
 RDL PG (loadVar 28 (Addr.add a2 0)) w5 fun x32 x32N x32C =>
 IFB (decide (n > (IntKind.i64.wrap (x30 - (x32N : Int)))))
 (RDI PG (loadVar 3 (Addr.add a2 2)) .i64 w5 fun x37 =>
 RDL PG (loadVar 28 (Addr.add a2 0)) w5 fun x39 x39N x39C =>
 LETI (IntKind.i64.wrap (x37 - (x39N : Int))) fun n1 =>
 R n1 w5)
 (R n w5)) ∧
 (∀ (n2 : Int) (w8 : World), R n2 w8 → (∃ R1 : Int → World → Prop,
 (RD PG (loadVar 93 a2) w8 fun v14 =>
 ∃ (x44 : Option Addr) (x44N x44C : Nat), ∃ x44v1 : Int, ∃ x44v2 : Int, ∃ x44v3 : Bool, ∃ x44v4 : Bool, v14 = (.agg #[(.slice x44 x44N x44C), (.int .u64 x44v1), (.int .i64 x44v2), (.bool x44v3), (.bool x44v4)]) ∧
 (CALL PG 60 [(.agg #[(.slice x44 x44N x44C), (.int .u64 x44v1), (.int .i64 x44v2), (.bool x44v3), (.bool x44v4)])] w8 fun v15 w9 =>
 ∃ x45 : Int, v15 = (.int .u64 x45) ∧
 (IFB (decide ((IntKind.u64.wrap n2) > (IntKind.u64.wrap ((4611686018427387904 : Int) - x45))))
 (RD PG (loadVar 93 a2) w9 fun v16 =>
 ∃ (x48 : Option Addr) (x48N x48C : Nat), ∃ x48v1 : Int, ∃ x48v2 : Int, ∃ x48v3 : Bool, ∃ x48v4 : Bool, v16 = (.agg #[(.slice x48 x48N x48C), (.int .u64 x48v1), (.int .i64 x48v2), (.bool x48v3), (.bool x48v4)]) ∧
 (CALL PG 60 [(.agg #[(.slice x48 x48N x48C), (.int .u64 x48v1), (.int .i64 x48v2), (.bool x48v3), (.bool x48v4)])] w9 fun v17 w10 =>
 ∃ x49 : Int, v17 = (.int .u64 x49) ∧
 (LETI (IntKind.i64.wrap (IntKind.u64.wrap ((4611686018427387904 : Int) - x49))) fun n3 =>
 R1 n3 w10)))
 (R1 n2 w9)))) ∧
 (∀ (n4 : Int) (w11 : World), R1 n4 w11 → (∃ S : World → Prop, S (w11.drew) ∧
 (RDSL PG (loadVar 28 (Addr.add a2 0)) S fun x54 x54N x54C =>
 NEED (0 ≤ (0 : Int) ∧ (0 : Int) ≤ n4 ∧ n4 ≤ ((bC : Nat) : Int))
 (RUNL PG (Instr.buildSlice 28 0 #[]) (w11.drew) fun x52 x52N x52C w12 =>
 ∃ S1 : World → Prop, (∀ x, S1 x → S x) ∧ S1 w12 ∧
 (RUNL PG (Builtin.append_ #[28, 28] 28 #[(.slice x52 x52N x52C), (.slice x54 x54N x54C)]) w12 fun x55 x55N x55C w13 =>
 ∃ S2 : World → Prop, (∀ x, S2 x → S1 x) ∧ S2 w13 ∧
 (RUNL PG (Builtin.append_ #[28, 28] 28 #[(.slice x55 x55N x55C), (.slice (cutA b bC 1 (0 : Int)) (Int.toNat n4 - Int.toNat (0 : Int)) (bC - Int.toNat (0 : Int)))]) w13 fun x59 x59N x59C w14 =>
 RUNU PG (storeVar 28 (Addr.add a2 0) (.slice x59 x59N x59C)) w14 fun w15 =>
 RD PG (loadVar 93 a2) w15 fun v18 =>
 ∃ (x61 : Option Addr) (x61N x61C : Nat), ∃ x61v1 : Int, ∃ x61v2 : Int, ∃ x61v3 : Bool, ∃ x61v4 : Bool, v18 = (.agg #[(.slice x61 x61N x61C), (.int .u64 x61v1), (.int .i64 x61v2), (.bool x61v3), (.bool x61v4)]) ∧
 (RUNU PG (storeVar 93 a4 (.agg #[(.slice x61 x61N x61C), (.int .u64 x61v1), (.int .i64 x61v2), (.bool x61v3), (.bool x61v4)])) w15 fun w16 =>
 LETI n4 fun x5 =>
 RD PG (loadVar 93 a4) w16 fun v20 =>
 ∃ (r20 : Option Addr) (rN4 rC4 : Nat), ∃ r21 : Int, ∃ r22 : Int, ∃ r23 : Bool, ∃ r24 : Bool, v20 = (.agg #[(.slice r20 rN4 rC4), (.int .u64 r21), (.int .i64 r22), (.bool r23), (.bool r24)]) ∧
 (Q (.tuple #[(.agg #[(.slice r20 rN4 rC4), (.int .u64 r21), (.int .i64 r22), (.bool r23), (.bool r24)]), (.int .i64 x5), (.int .i64 (0 : Int))]) w16))))))))))))))))
theorem eq109 : ∀ (o : Option Addr) (oN oC : Nat) (o1 : Int) (o2 : Int) (o3 : Bool) (o4 : Bool) (b : Option Addr) (bN bC : Nat) (w : World) (Q : Value → World → Prop), vcF PG TB Try.f109 (.s .nil (.s .nil (.s .nil (.s .nil (.s .nil (.s .nil (.cut [(7, 3)] .nil (.cut [(7, 3)] .nil .nil)))))))) [(.agg #[(.slice o oN oC), (.int .u64 o1), (.int .i64 o2), (.bool o3), (.bool o4)]), (.slice b bN bC)] w Q = N109 o oN oC o1 o2 o3 o4 b bN bC w Q := by intros; kernel_rfl
theorem call109 {o : Option Addr} {oN oC : Nat} {o1 : Int} {o2 : Int} {o3 : Bool} {o4 : Bool} {b : Option Addr} {bN bC : Nat} {w : World} {Q : Value → World → Prop} (hN : N109 o oN oC o1 o2 o3 o4 b bN bC w Q) : CALL PG 109 [(.agg #[(.slice o oN oC), (.int .u64 o1), (.int .i64 o2), (.bool o3), (.bool o4)]), (.slice b bN bC)] w Q := calls_vc tabOk Try.func109 (by rw [eq109]; exact hN)

end Go.Br
