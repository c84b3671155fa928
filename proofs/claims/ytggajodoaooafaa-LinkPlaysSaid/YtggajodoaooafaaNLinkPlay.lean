/- What the code of some functions says, as the core reads it; each reading is checked by the kernel. -/
import Derived.Test.YtggajodoaooafaaBrSeat
set_option linter.unusedVariables false
set_option maxRecDepth 100000
namespace Go.Br
open Go Go.Proofs

/-- brougham/broughamref32.New -/
def N34 (m : Int) (m1 : Int) (m2 : Int) (m3 : Int) (m4 : Int) (m5 : Int) (seed : Int) (w : World) (Q : Value → World → Prop) : Prop :=
 RUNA PG (Instr.box 71 (.agg #[(.int .i64 m), (.int .i64 m1), (.int .i64 m2), (.int .i64 m3), (.int .i64 m4), (.int .i64 m5)])) w fun a2 w1 =>
 RUNA PG (Instr.alloc 76 true (.tuple #[])) w1 fun a4 w2 =>
 IFB (seed == (0 : Int))
 (RD PG (loadVar 71 a2) w2 fun v =>
 ∃ x7 : Int, ∃ x7v1 : Int, ∃ x7v2 : Int, ∃ x7v3 : Int, ∃ x7v4 : Int, ∃ x7v5 : Int, v = (.agg #[(.int .i64 x7), (.int .i64 x7v1), (.int .i64 x7v2), (.int .i64 x7v3), (.int .i64 x7v4), (.int .i64 x7v5)]) ∧
 (RD PG (Instr.build 76 #[(0, (.agg #[(.int .i64 x7), (.int .i64 x7v1), (.int .i64 x7v2), (.int .i64 x7v3), (.int .i64 x7v4), (.int .i64 x7v5)])), (1, (.int .u64 (1 : Int)))]) w2 fun v1 =>
 ∃ x9 : Int, ∃ x9v1 : Int, ∃ x9v2 : Int, ∃ x9v3 : Int, ∃ x9v4 : Int, ∃ x9v5 : Int, ∃ x9v6 : Int, ∃ x9v7 : Int, ∃ (x9v8 : Option Addr) (x9N x9C : Nat), ∃ x9v9 : Int, ∃ x9v10 : Int, ∃ x9v11 : Int, ∃ x9v12 : Int, ∃ x9v13 : Int, v1 = (.agg #[(.int .i64 x9), (.int .i64 x9v1), (.int .i64 x9v2), (.int .i64 x9v3), (.int .i64 x9v4), (.int .i64 x9v5), (.int .u64 x9v6), (.int .i64 x9v7), (.slice x9v8 x9N x9C), (.int .i64 x9v9), (.int .i64 x9v10), (.int .i64 x9v11), (.int .i64 x9v12), (.int .i64 x9v13)]) ∧
 (RUNU PG (storeVar 76 a4 (.agg #[(.int .i64 x9), (.int .i64 x9v1), (.int .i64 x9v2), (.int .i64 x9v3), (.int .i64 x9v4), (.int .i64 x9v5), (.int .u64 x9v6), (.int .i64 x9v7), (.slice x9v8 x9N x9C), (.int .i64 x9v9), (.int .i64 x9v10), (.int .i64 x9v11), (.int .i64 x9v12), (.int .i64 x9v13)])) w2 fun w3 =>
 RD PG (loadVar 76 a4) w3 fun v3 =>
 ∃ r : Int, ∃ r1 : Int, ∃ r2 : Int, ∃ r3 : Int, ∃ r4 : Int, ∃ r5 : Int, ∃ r6 : Int, ∃ r7 : Int, ∃ (r8 : Option Addr) (rN rC : Nat), ∃ r9 : Int, ∃ r10 : Int, ∃ r11 : Int, ∃ r12 : Int, ∃ r13 : Int, v3 = (.agg #[(.int .i64 r), (.int .i64 r1), (.int .i64 r2), (.int .i64 r3), (.int .i64 r4), (.int .i64 r5), (.int .u64 r6), (.int .i64 r7), (.slice r8 rN rC), (.int .i64 r9), (.int .i64 r10), (.int .i64 r11), (.int .i64 r12), (.int .i64 r13)]) ∧
 (Q (.agg #[(.int .i64 r), (.int .i64 r1), (.int .i64 r2), (.int .i64 r3), (.int .i64 r4), (.int .i64 r5), (.int .u64 r6), (.int .i64 r7), (.slice r8 rN rC), (.int .i64 r9), (.int .i64 r10), (.int .i64 r11), (.int .i64 r12), (.int .i64 r13)]) w3))))
 (RD PG (loadVar 71 a2) w2 fun v4 =>
 ∃ x7v6 : Int, ∃ x7v7 : Int, ∃ x7v8 : Int, ∃ x7v9 : Int, ∃ x7v10 : Int, ∃ x7v11 : Int, v4 = (.agg #[(.int .i64 x7v6), (.int .i64 x7v7), (.int .i64 x7v8), (.int .i64 x7v9), (.int .i64 x7v10), (.int .i64 x7v11)]) ∧
 (RD PG (Instr.build 76 #[(0, (.agg #[(.int .i64 x7v6), (.int .i64 x7v7), (.int .i64 x7v8), (.int .i64 x7v9), (.int .i64 x7v10), (.int .i64 x7v11)])), (1, (.int .u64 seed))]) w2 fun v5 =>
 ∃ x9v14 : Int, ∃ x9v15 : Int, ∃ x9v16 : Int, ∃ x9v17 : Int, ∃ x9v18 : Int, ∃ x9v19 : Int, ∃ x9v20 : Int, ∃ x9v21 : Int, ∃ (x9v22 : Option Addr) (x9N1 x9C1 : Nat), ∃ x9v23 : Int, ∃ x9v24 : Int, ∃ x9v25 : Int, ∃ x9v26 : Int, ∃ x9v27 : Int, v5 = (.agg #[(.int .i64 x9v14), (.int .i64 x9v15), (.int .i64 x9v16), (.int .i64 x9v17), (.int .i64 x9v18), (.int .i64 x9v19), (.int .u64 x9v20), (.int .i64 x9v21), (.slice x9v22 x9N1 x9C1), (.int .i64 x9v23), (.int .i64 x9v24), (.int .i64 x9v25), (.int .i64 x9v26), (.int .i64 x9v27)]) ∧
 (RUNU PG (storeVar 76 a4 (.agg #[(.int .i64 x9v14), (.int .i64 x9v15), (.int .i64 x9v16), (.int .i64 x9v17), (.int .i64 x9v18), (.int .i64 x9v19), (.int .u64 x9v20), (.int .i64 x9v21), (.slice x9v22 x9N1 x9C1), (.int .i64 x9v23), (.int .i64 x9v24), (.int .i64 x9v25), (.int .i64 x9v26), (.int .i64 x9v27)])) w2 fun w4 =>
 RD PG (loadVar 76 a4) w4 fun v7 =>
 ∃ r14 : Int, ∃ r15 : Int, ∃ r16 : Int, ∃ r17 : Int, ∃ r18 : Int, ∃ r19 : Int, ∃ r20 : Int, ∃ r21 : Int, ∃ (r22 : Option Addr) (rN1 rC1 : Nat), ∃ r23 : Int, ∃ r24 : Int, ∃ r25 : Int, ∃ r26 : Int, ∃ r27 : Int, v7 = (.agg #[(.int .i64 r14), (.int .i64 r15), (.int .i64 r16), (.int .i64 r17), (.int .i64 r18), (.int .i64 r19), (.int .u64 r20), (.int .i64 r21), (.slice r22 rN1 rC1), (.int .i64 r23), (.int .i64 r24), (.int .i64 r25), (.int .i64 r26), (.int .i64 r27)]) ∧
 (Q (.agg #[(.int .i64 r14), (.int .i64 r15), (.int .i64 r16), (.int .i64 r17), (.int .i64 r18), (.int .i64 r19), (.int .u64 r20), (.int .i64 r21), (.slice r22 rN1 rC1), (.int .i64 r23), (.int .i64 r24), (.int .i64 r25), (.int .i64 r26), (.int .i64 r27)]) w4))))
theorem eq34 : ∀ (m : Int) (m1 : Int) (m2 : Int) (m3 : Int) (m4 : Int) (m5 : Int) (seed : Int) (w : World) (Q : Value → World → Prop), vcF PG TB Try.f34 .nil [(.agg #[(.int .i64 m), (.int .i64 m1), (.int .i64 m2), (.int .i64 m3), (.int .i64 m4), (.int .i64 m5)]), (.int .u64 seed)] w Q = N34 m m1 m2 m3 m4 m5 seed w Q := by intros; kernel_rfl
theorem call34 {m : Int} {m1 : Int} {m2 : Int} {m3 : Int} {m4 : Int} {m5 : Int} {seed : Int} {w : World} {Q : Value → World → Prop} (hN : N34 m m1 m2 m3 m4 m5 seed w Q) : CALL PG 34 [(.agg #[(.int .i64 m), (.int .i64 m1), (.int .i64 m2), (.int .i64 m3), (.int .i64 m4), (.int .i64 m5)]), (.int .u64 seed)] w Q := calls_vc tabOk Try.func34 (by rw [eq34]; exact hN)

/-- brougham/broughamref32.below -/
def N85 (l : Int) (l1 : Int) (l2 : Int) (l3 : Int) (l4 : Int) (l5 : Int) (l6 : Int) (l7 : Int) (l8 : Option Addr) (lN lC : Nat) (l9 : Int) (l10 : Int) (l11 : Int) (l12 : Int) (l13 : Int) (n : Int) (w : World) (Q : Value → World → Prop) : Prop :=
 RUNA PG (Instr.box 76 (.agg #[(.int .i64 l), (.int .i64 l1), (.int .i64 l2), (.int .i64 l3), (.int .i64 l4), (.int .i64 l5), (.int .u64 l6), (.int .i64 l7), (.slice l8 lN lC), (.int .i64 l9), (.int .i64 l10), (.int .i64 l11), (.int .i64 l12), (.int .i64 l13)])) w fun a2 w1 =>
 RUNA PG (Instr.alloc 76 true (.tuple #[])) w1 fun a4 w2 =>
 RDI PG (loadVar 56 (Addr.add a2 6)) .u64 w2 fun x7 =>
 CALL PG 27 [(.int .u64 x7)] w2 fun v w3 =>
 ∃ x8 : Int, v = (.int .u64 x8) ∧
 (RUNU PG (storeVar 56 (Addr.add a2 6) (.int .u64 x8)) w3 fun w4 =>
 ∃ S : World → Prop, S (w4.drew) ∧
 (RDS PG (loadVar 76 a2) S fun v1 =>
 ∃ x10 : Int, ∃ x10v1 : Int, ∃ x10v2 : Int, ∃ x10v3 : Int, ∃ x10v4 : Int, ∃ x10v5 : Int, ∃ x10v6 : Int, ∃ x10v7 : Int, ∃ (x10v8 : Option Addr) (x10N x10C : Nat), ∃ x10v9 : Int, ∃ x10v10 : Int, ∃ x10v11 : Int, ∃ x10v12 : Int, ∃ x10v13 : Int, v1 = (.agg #[(.int .i64 x10), (.int .i64 x10v1), (.int .i64 x10v2), (.int .i64 x10v3), (.int .i64 x10v4), (.int .i64 x10v5), (.int .u64 x10v6), (.int .i64 x10v7), (.slice x10v8 x10N x10C), (.int .i64 x10v9), (.int .i64 x10v10), (.int .i64 x10v11), (.int .i64 x10v12), (.int .i64 x10v13)]) ∧
 (RDSI PG (loadVar 56 (Addr.add a2 6)) .u64 S fun x12 =>
 NEED ((IntKind.u64.wrap n) ≠ 0)
 (RUNU PG (storeVar 76 a4 (.agg #[(.int .i64 x10), (.int .i64 x10v1), (.int .i64 x10v2), (.int .i64 x10v3), (.int .i64 x10v4), (.int .i64 x10v5), (.int .u64 x10v6), (.int .i64 x10v7), (.slice x10v8 x10N x10C), (.int .i64 x10v9), (.int .i64 x10v10), (.int .i64 x10v11), (.int .i64 x10v12), (.int .i64 x10v13)])) (w4.drew) fun w5 =>
 ∃ S1 : World → Prop, (∀ x, S1 x → S x) ∧ S1 w5 ∧
 (LETI (IntKind.i64.wrap (Int.tmod x12 (IntKind.u64.wrap n))) fun x5 =>
 RD PG (loadVar 76 a4) w5 fun v3 =>
 ∃ r : Int, ∃ r1 : Int, ∃ r2 : Int, ∃ r3 : Int, ∃ r4 : Int, ∃ r5 : Int, ∃ r6 : Int, ∃ r7 : Int, ∃ (r8 : Option Addr) (rN rC : Nat), ∃ r9 : Int, ∃ r10 : Int, ∃ r11 : Int, ∃ r12 : Int, ∃ r13 : Int, v3 = (.agg #[(.int .i64 r), (.int .i64 r1), (.int .i64 r2), (.int .i64 r3), (.int .i64 r4), (.int .i64 r5), (.int .u64 r6), (.int .i64 r7), (.slice r8 rN rC), (.int .i64 r9), (.int .i64 r10), (.int .i64 r11), (.int .i64 r12), (.int .i64 r13)]) ∧
 (Q (.tuple #[(.agg #[(.int .i64 r), (.int .i64 r1), (.int .i64 r2), (.int .i64 r3), (.int .i64 r4), (.int .i64 r5), (.int .u64 r6), (.int .i64 r7), (.slice r8 rN rC), (.int .i64 r9), (.int .i64 r10), (.int .i64 r11), (.int .i64 r12), (.int .i64 r13)]), (.int .i64 x5)]) w5))))))
theorem eq85 : ∀ (l : Int) (l1 : Int) (l2 : Int) (l3 : Int) (l4 : Int) (l5 : Int) (l6 : Int) (l7 : Int) (l8 : Option Addr) (lN lC : Nat) (l9 : Int) (l10 : Int) (l11 : Int) (l12 : Int) (l13 : Int) (n : Int) (w : World) (Q : Value → World → Prop), vcF PG TB Try.f85 .nil [(.agg #[(.int .i64 l), (.int .i64 l1), (.int .i64 l2), (.int .i64 l3), (.int .i64 l4), (.int .i64 l5), (.int .u64 l6), (.int .i64 l7), (.slice l8 lN lC), (.int .i64 l9), (.int .i64 l10), (.int .i64 l11), (.int .i64 l12), (.int .i64 l13)]), (.int .i64 n)] w Q = N85 l l1 l2 l3 l4 l5 l6 l7 l8 lN lC l9 l10 l11 l12 l13 n w Q := by intros; kernel_rfl
theorem call85 {l : Int} {l1 : Int} {l2 : Int} {l3 : Int} {l4 : Int} {l5 : Int} {l6 : Int} {l7 : Int} {l8 : Option Addr} {lN lC : Nat} {l9 : Int} {l10 : Int} {l11 : Int} {l12 : Int} {l13 : Int} {n : Int} {w : World} {Q : Value → World → Prop} (hN : N85 l l1 l2 l3 l4 l5 l6 l7 l8 lN lC l9 l10 l11 l12 l13 n w Q) : CALL PG 85 [(.agg #[(.int .i64 l), (.int .i64 l1), (.int .i64 l2), (.int .i64 l3), (.int .i64 l4), (.int .i64 l5), (.int .u64 l6), (.int .i64 l7), (.slice l8 lN lC), (.int .i64 l9), (.int .i64 l10), (.int .i64 l11), (.int .i64 l12), (.int .i64 l13)]), (.int .i64 n)] w Q := calls_vc tabOk Try.func85 (by rw [eq85]; exact hN)

/-- brougham/broughamref32.put -/
def N86 (l : Int) (l1 : Int) (l2 : Int) (l3 : Int) (l4 : Int) (l5 : Int) (l6 : Int) (l7 : Int) (l8 : Option Addr) (lN lC : Nat) (l9 : Int) (l10 : Int) (l11 : Int) (l12 : Int) (l13 : Int) (b : ByteArray) (w : World) (Q : Value → World → Prop) : Prop :=
 RUNA PG (Instr.box 76 (.agg #[(.int .i64 l), (.int .i64 l1), (.int .i64 l2), (.int .i64 l3), (.int .i64 l4), (.int .i64 l5), (.int .u64 l6), (.int .i64 l7), (.slice l8 lN lC), (.int .i64 l9), (.int .i64 l10), (.int .i64 l11), (.int .i64 l12), (.int .i64 l13)])) w fun a2 w1 =>
 RUNA PG (Instr.alloc 76 true (.tuple #[])) w1 fun a4 w2 =>
 RDL PG (loadVar 74 (Addr.add a2 8)) w2 fun x9 x9N x9C =>
 RDI PG (loadVar 3 (Addr.add (Addr.add a2 0) 4)) .i64 w2 fun x13 =>
 IFB (decide ((x9N : Int) ≥ x13))
 (RDI PG (loadVar 3 (Addr.add a2 11)) .i64 w2 fun x16 =>
 RUNU PG (storeVar 3 (Addr.add a2 11) (.int .i64 (IntKind.i64.wrap (x16 + (1 : Int))))) w2 fun w3 =>
 RD PG (loadVar 76 a2) w3 fun v =>
 ∃ x19 : Int, ∃ x19v1 : Int, ∃ x19v2 : Int, ∃ x19v3 : Int, ∃ x19v4 : Int, ∃ x19v5 : Int, ∃ x19v6 : Int, ∃ x19v7 : Int, ∃ (x19v8 : Option Addr) (x19N x19C : Nat), ∃ x19v9 : Int, ∃ x19v10 : Int, ∃ x19v11 : Int, ∃ x19v12 : Int, ∃ x19v13 : Int, v = (.agg #[(.int .i64 x19), (.int .i64 x19v1), (.int .i64 x19v2), (.int .i64 x19v3), (.int .i64 x19v4), (.int .i64 x19v5), (.int .u64 x19v6), (.int .i64 x19v7), (.slice x19v8 x19N x19C), (.int .i64 x19v9), (.int .i64 x19v10), (.int .i64 x19v11), (.int .i64 x19v12), (.int .i64 x19v13)]) ∧
 (RUNU PG (storeVar 76 a4 (.agg #[(.int .i64 x19), (.int .i64 x19v1), (.int .i64 x19v2), (.int .i64 x19v3), (.int .i64 x19v4), (.int .i64 x19v5), (.int .u64 x19v6), (.int .i64 x19v7), (.slice x19v8 x19N x19C), (.int .i64 x19v9), (.int .i64 x19v10), (.int .i64 x19v11), (.int .i64 x19v12), (.int .i64 x19v13)])) w3 fun w4 =>
 RD PG (loadVar 76 a4) w4 fun v2 =>
 ∃ r : Int, ∃ r1 : Int, ∃ r2 : Int, ∃ r3 : Int, ∃ r4 : Int, ∃ r5 : Int, ∃ r6 : Int, ∃ r7 : Int, ∃ (r8 : Option Addr) (rN rC : Nat), ∃ r9 : Int, ∃ r10 : Int, ∃ r11 : Int, ∃ r12 : Int, ∃ r13 : Int, v2 = (.agg #[(.int .i64 r), (.int .i64 r1), (.int .i64 r2), (.int .i64 r3), (.int .i64 r4), (.int .i64 r5), (.int .u64 r6), (.int .i64 r7), (.slice r8 rN rC), (.int .i64 r9), (.int .i64 r10), (.int .i64 r11), (.int .i64 r12), (.int .i64 r13)]) ∧
 (Q (.agg #[(.int .i64 r), (.int .i64 r1), (.int .i64 r2), (.int .i64 r3), (.int .i64 r4), (.int .i64 r5), (.int .u64 r6), (.int .i64 r7), (.slice r8 rN rC), (.int .i64 r9), (.int .i64 r10), (.int .i64 r11), (.int .i64 r12), (.int .i64 r13)]) w4)))
 (∃ R : Int → World → Prop,
 (RDI PG (loadVar 3 (Addr.add (Addr.add a2 0) 1)) .i64 w2 fun x22 =>
 IFB (decide (x22 > (0 : Int)))
 (RD PG (loadVar 76 a2) w2 fun v3 =>
 ∃ x25 : Int, ∃ x25v1 : Int, ∃ x25v2 : Int, ∃ x25v3 : Int, ∃ x25v4 : Int, ∃ x25v5 : Int, ∃ x25v6 : Int, ∃ x25v7 : Int, ∃ (x25v8 : Option Addr) (x25N x25C : Nat), ∃ x25v9 : Int, ∃ x25v10 : Int, ∃ x25v11 : Int, ∃ x25v12 : Int, ∃ x25v13 : Int, v3 = (.agg #[(.int .i64 x25), (.int .i64 x25v1), (.int .i64 x25v2), (.int .i64 x25v3), (.int .i64 x25v4), (.int .i64 x25v5), (.int .u64 x25v6), (.int .i64 x25v7), (.slice x25v8 x25N x25C), (.int .i64 x25v9), (.int .i64 x25v10), (.int .i64 x25v11), (.int .i64 x25v12), (.int .i64 x25v13)]) ∧
 (RDI PG (loadVar 3 (Addr.add (Addr.add a2 0) 1)) .i64 w2 fun x28 =>
 CALL PG 85 [(.agg #[(.int .i64 x25), (.int .i64 x25v1), (.int .i64 x25v2), (.int .i64 x25v3), (.int .i64 x25v4), (.int .i64 x25v5), (.int .u64 x25v6), (.int .i64 x25v7), (.slice x25v8 x25N x25C), (.int .i64 x25v9), (.int .i64 x25v10), (.int .i64 x25v11), (.int .i64 x25v12), (.int .i64 x25v13)]), (.int .i64 (IntKind.i64.wrap (x28 + (1 : Int))))] w2 fun v4 w5 =>
 ∃ x30 : Int, ∃ x30v1 : Int, ∃ x30v2 : Int, ∃ x30v3 : Int, ∃ x30v4 : Int, ∃ x30v5 : Int, ∃ x30v6 : Int, ∃ x30v7 : Int, ∃ (x30v8 : Option Addr) (x30N x30C : Nat), ∃ x30v9 : Int, ∃ x30v10 : Int, ∃ x30v11 : Int, ∃ x30v12 : Int, ∃ x30v13 : Int, ∃ x30v14 : Int, v4 = (.tuple #[(.agg #[(.int .i64 x30), (.int .i64 x30v1), (.int .i64 x30v2), (.int .i64 x30v3), (.int .i64 x30v4), (.int .i64 x30v5), (.int .u64 x30v6), (.int .i64 x30v7), (.slice x30v8 x30N x30C), (.int .i64 x30v9), (.int .i64 x30v10), (.int .i64 x30v11), (.int .i64 x30v12), (.int .i64 x30v13)]), (.int .i64 x30v14)]) ∧
 (RUNU PG (storeVar 76 a2 (.agg #[(.int .i64 x30), (.int .i64 x30v1), (.int .i64 x30v2), (.int .i64 x30v3), (.int .i64 x30v4), (.int .i64 x30v5), (.int .u64 x30v6), (.int .i64 x30v7), (.slice x30v8 x30N x30C), (.int .i64 x30v9), (.int .i64 x30v10), (.int .i64 x30v11), (.int .i64 x30v12), (.int .i64 x30v13)])) w5 fun w6 =>
 LETI x30v14 fun late =>
 R late w6)))
 (R (0 : Int) w2)) ∧
 (∀ (late1 : Int) (w7 : World), R late1 w7 → (∃ S : World → Prop, S (w7.drew) ∧
 (RDSL PG (loadVar 74 (Addr.add a2 8)) S fun x35 x35N x35C =>
 RDSI PG (loadVar 3 (Addr.add a2 7)) .i64 S fun x38 =>
 RDSI PG (loadVar 3 (Addr.add (Addr.add a2 0) 0)) .i64 S fun x41 =>
 RDS PG (Instr.build 170 #[(0, (.int .i64 (IntKind.i64.wrap ((IntKind.i64.wrap (x38 + x41)) + late1)))), (1, (.string b))]) S fun v5 =>
 ∃ x46 : Int, ∃ x46v1 : ByteArray, v5 = (.agg #[(.int .i64 x46), (.string x46v1)]) ∧
 ((RUNL PG (Instr.buildSlice 74 0 #[]) (w7.drew) fun x33 x33N x33C w8 =>
 ∃ S1 : World → Prop, (∀ x, S1 x → S x) ∧ S1 w8 ∧
 ((RUNL PG (Builtin.append_ #[74, 74] 74 #[(.slice x33 x33N x33C), (.slice x35 x35N x35C)]) w8 fun x36 x36N x36C w9 =>
 ∃ S2 : World → Prop, (∀ x, S2 x → S1 x) ∧ S2 w9 ∧
 (RUNL PG (Instr.buildSlice 74 1 #[(0, (.agg #[(.int .i64 x46), (.string x46v1)]))]) w9 fun x47 x47N x47C w10 =>
 ∃ S3 : World → Prop, (∀ x, S3 x → S2 x) ∧ S3 w10 ∧
 (RUNL PG (Builtin.append_ #[74, 74] 74 #[(.slice x36 x36N x36C), (.slice x47 x47N x47C)]) w10 fun x48 x48N x48C w11 =>
 LETI (IntKind.i64.wrap ((x48N : Int) - (1 : Int))) fun i =>
 ∃ I : Nat → Int → World → Prop,
 (∃ m, I m i w11) ∧
 (∀ m1 (i1 : Int) (w12 : World), I m1 i1 w12 → (IFB (decide (i1 > (0 : Int)))
 (IDX x48 x48N i1 fun a57 =>
 RDI PG (loadVar 3 (Addr.add (Addr.add a57 (Int.toNat i1 * 2)) 0)) .i64 (w12.drew) fun x59 =>
 IDX x48 x48N (IntKind.i64.wrap (i1 - (1 : Int))) fun a63 =>
 RDI PG (loadVar 3 (Addr.add (Addr.add a63 (Int.toNat (IntKind.i64.wrap (i1 - (1 : Int))) * 2)) 0)) .i64 (w12.drew) fun x65 =>
 IFB (decide (x59 < x65))
 (IDX x48 x48N (IntKind.i64.wrap (i1 - (1 : Int))) fun a78 =>
 RD PG (loadVar 170 (Addr.add a78 (Int.toNat (IntKind.i64.wrap (i1 - (1 : Int))) * 2))) ((w12.drew).drew) fun v6 =>
 ∃ x79 : Int, ∃ x79v1 : ByteArray, v6 = (.agg #[(.int .i64 x79), (.string x79v1)]) ∧
 (IDX x48 x48N i1 fun a82 =>
 RD PG (loadVar 170 (Addr.add a82 (Int.toNat i1 * 2))) ((w12.drew).drew) fun v7 =>
 ∃ x83 : Int, ∃ x83v1 : ByteArray, v7 = (.agg #[(.int .i64 x83), (.string x83v1)]) ∧
 (IDX x48 x48N i1 fun a84 =>
 RUNU PG (storeVar 170 (Addr.add a84 (Int.toNat i1 * 2)) (.agg #[(.int .i64 x79), (.string x79v1)])) ((w12.drew).drew) fun w13 =>
 IDX x48 x48N (IntKind.i64.wrap (i1 - (1 : Int))) fun a85 =>
 RUNU PG (storeVar 170 (Addr.add a85 (Int.toNat (IntKind.i64.wrap (i1 - (1 : Int))) * 2)) (.agg #[(.int .i64 x83), (.string x83v1)])) w13 fun w14 =>
 LETI (IntKind.i64.wrap (i1 - (1 : Int))) fun i2 =>
 ∃ m2, m2 < m1 ∧ I m2 i2 w14)))
 (RUNU PG (storeVar 74 (Addr.add a2 8) (.slice x48 x48N x48C)) (w12.drew) fun w15 =>
 RD PG (loadVar 76 a2) w15 fun v8 =>
 ∃ x88 : Int, ∃ x88v1 : Int, ∃ x88v2 : Int, ∃ x88v3 : Int, ∃ x88v4 : Int, ∃ x88v5 : Int, ∃ x88v6 : Int, ∃ x88v7 : Int, ∃ (x88v8 : Option Addr) (x88N x88C : Nat), ∃ x88v9 : Int, ∃ x88v10 : Int, ∃ x88v11 : Int, ∃ x88v12 : Int, ∃ x88v13 : Int, v8 = (.agg #[(.int .i64 x88), (.int .i64 x88v1), (.int .i64 x88v2), (.int .i64 x88v3), (.int .i64 x88v4), (.int .i64 x88v5), (.int .u64 x88v6), (.int .i64 x88v7), (.slice x88v8 x88N x88C), (.int .i64 x88v9), (.int .i64 x88v10), (.int .i64 x88v11), (.int .i64 x88v12), (.int .i64 x88v13)]) ∧
 (RUNU PG (storeVar 76 a4 (.agg #[(.int .i64 x88), (.int .i64 x88v1), (.int .i64 x88v2), (.int .i64 x88v3), (.int .i64 x88v4), (.int .i64 x88v5), (.int .u64 x88v6), (.int .i64 x88v7), (.slice x88v8 x88N x88C), (.int .i64 x88v9), (.int .i64 x88v10), (.int .i64 x88v11), (.int .i64 x88v12), (.int .i64 x88v13)])) w15 fun w16 =>
 RD PG (loadVar 76 a4) w16 fun v10 =>
 ∃ r14 : Int, ∃ r15 : Int, ∃ r16 : Int, ∃ r17 : Int, ∃ r18 : Int, ∃ r19 : Int, ∃ r20 : Int, ∃ r21 : Int, ∃ (r22 : Option Addr) (rN1 rC1 : Nat), ∃ r23 : Int, ∃ r24 : Int, ∃ r25 : Int, ∃ r26 : Int, ∃ r27 : Int, v10 = (.agg #[(.int .i64 r14), (.int .i64 r15), (.int .i64 r16), (.int .i64 r17), (.int .i64 r18), (.int .i64 r19), (.int .u64 r20), (.int .i64 r21), (.slice r22 rN1 rC1), (.int .i64 r23), (.int .i64 r24), (.int .i64 r25), (.int .i64 r26), (.int .i64 r27)]) ∧
 (Q (.agg #[(.int .i64 r14), (.int .i64 r15), (.int .i64 r16), (.int .i64 r17), (.int .i64 r18), (.int .i64 r19), (.int .u64 r20), (.int .i64 r21), (.slice r22 rN1 rC1), (.int .i64 r23), (.int .i64 r24), (.int .i64 r25), (.int .i64 r26), (.int .i64 r27)]) w16))))
 (RUNU PG (storeVar 74 (Addr.add a2 8) (.slice x48 x48N x48C)) (w12.drew) fun w17 =>
 RD PG (loadVar 76 a2) w17 fun v11 =>
 ∃ x88v14 : Int, ∃ x88v15 : Int, ∃ x88v16 : Int, ∃ x88v17 : Int, ∃ x88v18 : Int, ∃ x88v19 : Int, ∃ x88v20 : Int, ∃ x88v21 : Int, ∃ (x88v22 : Option Addr) (x88N1 x88C1 : Nat), ∃ x88v23 : Int, ∃ x88v24 : Int, ∃ x88v25 : Int, ∃ x88v26 : Int, ∃ x88v27 : Int, v11 = (.agg #[(.int .i64 x88v14), (.int .i64 x88v15), (.int .i64 x88v16), (.int .i64 x88v17), (.int .i64 x88v18), (.int .i64 x88v19), (.int .u64 x88v20), (.int .i64 x88v21), (.slice x88v22 x88N1 x88C1), (.int .i64 x88v23), (.int .i64 x88v24), (.int .i64 x88v25), (.int .i64 x88v26), (.int .i64 x88v27)]) ∧
 (RUNU PG (storeVar 76 a4 (.agg #[(.int .i64 x88v14), (.int .i64 x88v15), (.int .i64 x88v16), (.int .i64 x88v17), (.int .i64 x88v18), (.int .i64 x88v19), (.int .u64 x88v20), (.int .i64 x88v21), (.slice x88v22 x88N1 x88C1), (.int .i64 x88v23), (.int .i64 x88v24), (.int .i64 x88v25), (.int .i64 x88v26), (.int .i64 x88v27)])) w17 fun w18 =>
 RD PG (loadVar 76 a4) w18 fun v13 =>
 ∃ r28 : Int, ∃ r29 : Int, ∃ r30 : Int, ∃ r31 : Int, ∃ r32 : Int, ∃ r33 : Int, ∃ r34 : Int, ∃ r35 : Int, ∃ (r36 : Option Addr) (rN2 rC2 : Nat), ∃ r37 : Int, ∃ r38 : Int, ∃ r39 : Int, ∃ r40 : Int, ∃ r41 : Int, v13 = (.agg #[(.int .i64 r28), (.int .i64 r29), (.int .i64 r30), (.int .i64 r31), (.int .i64 r32), (.int .i64 r33), (.int .u64 r34), (.int .i64 r35), (.slice r36 rN2 rC2), (.int .i64 r37), (.int .i64 r38), (.int .i64 r39), (.int .i64 r40), (.int .i64 r41)]) ∧
 (Q (.agg #[(.int .i64 r28), (.int .i64 r29), (.int .i64 r30), (.int .i64 r31), (.int .i64 r32), (.int .i64 r33), (.int .u64 r34), (.int .i64 r35), (.slice r36 rN2 rC2), (.int .i64 r37), (.int .i64 r38), (.int .i64 r39), (.int .i64 r40), (.int .i64 r41)]) w18)))))))) ∧
 (RUNL PG (Instr.buildSlice 74 1 #[(0, (.agg #[(.int .i64 x46), (.string x46v1)]))]) w8 fun x47v1 x47N1 x47C1 w19 =>
 ∃ S4 : World → Prop, (∀ x, S4 x → S1 x) ∧ S4 w19 ∧
 (RUNL PG (Builtin.append_ #[74, 74] 74 #[(.slice x33 x33N x33C), (.slice x35 x35N x35C)]) w19 fun x36v1 x36N1 x36C1 w20 =>
 ∃ S5 : World → Prop, (∀ x, S5 x → S4 x) ∧ S5 w20 ∧
 (RUNL PG (Builtin.append_ #[74, 74] 74 #[(.slice x36v1 x36N1 x36C1), (.slice x47v1 x47N1 x47C1)]) w20 fun x48v1 x48N1 x48C1 w21 =>
 LETI (IntKind.i64.wrap ((x48N1 : Int) - (1 : Int))) fun i3 =>
 ∃ I1 : Nat → Int → World → Prop,
 (∃ m3, I1 m3 i3 w21) ∧
 (∀ m4 (i4 : Int) (w22 : World), I1 m4 i4 w22 → (IFB (decide (i4 > (0 : Int)))
 (IDX x48v1 x48N1 i4 fun a57v1 =>
 RDI PG (loadVar 3 (Addr.add (Addr.add a57v1 (Int.toNat i4 * 2)) 0)) .i64 (w22.drew) fun x59v1 =>
 IDX x48v1 x48N1 (IntKind.i64.wrap (i4 - (1 : Int))) fun a63v1 =>
 RDI PG (loadVar 3 (Addr.add (Addr.add a63v1 (Int.toNat (IntKind.i64.wrap (i4 - (1 : Int))) * 2)) 0)) .i64 (w22.drew) fun x65v1 =>
 IFB (decide (x59v1 < x65v1))
 (IDX x48v1 x48N1 (IntKind.i64.wrap (i4 - (1 : Int))) fun a78v1 =>
 RD PG (loadVar 170 (Addr.add a78v1 (Int.toNat (IntKind.i64.wrap (i4 - (1 : Int))) * 2))) ((w22.drew).drew) fun v14 =>
 ∃ x79v2 : Int, ∃ x79v3 : ByteArray, v14 = (.agg #[(.int .i64 x79v2), (.string x79v3)]) ∧
 (IDX x48v1 x48N1 i4 fun a82v1 =>
 RD PG (loadVar 170 (Addr.add a82v1 (Int.toNat i4 * 2))) ((w22.drew).drew) fun v15 =>
 ∃ x83v2 : Int, ∃ x83v3 : ByteArray, v15 = (.agg #[(.int .i64 x83v2), (.string x83v3)]) ∧
 (IDX x48v1 x48N1 i4 fun a84v1 =>
 RUNU PG (storeVar 170 (Addr.add a84v1 (Int.toNat i4 * 2)) (.agg #[(.int .i64 x79v2), (.string x79v3)])) ((w22.drew).drew) fun w23 =>
 IDX x48v1 x48N1 (IntKind.i64.wrap (i4 - (1 : Int))) fun a85v1 =>
 RUNU PG (storeVar 170 (Addr.add a85v1 (Int.toNat (IntKind.i64.wrap (i4 - (1 : Int))) * 2)) (.agg #[(.int .i64 x83v2), (.string x83v3)])) w23 fun w24 =>
 LETI (IntKind.i64.wrap (i4 - (1 : Int))) fun i5 =>
 ∃ m5, m5 < m4 ∧ I1 m5 i5 w24)))
 (RUNU PG (storeVar 74 (Addr.add a2 8) (.slice x48v1 x48N1 x48C1)) (w22.drew) fun w25 =>
 RD PG (loadVar 76 a2) w25 fun v16 =>
 ∃ x88v28 : Int, ∃ x88v29 : Int, ∃ x88v30 : Int, ∃ x88v31 : Int, ∃ x88v32 : Int, ∃ x88v33 : Int, ∃ x88v34 : Int, ∃ x88v35 : Int, ∃ (x88v36 : Option Addr) (x88N2 x88C2 : Nat), ∃ x88v37 : Int, ∃ x88v38 : Int, ∃ x88v39 : Int, ∃ x88v40 : Int, ∃ x88v41 : Int, v16 = (.agg #[(.int .i64 x88v28), (.int .i64 x88v29), (.int .i64 x88v30), (.int .i64 x88v31), (.int .i64 x88v32), (.int .i64 x88v33), (.int .u64 x88v34), (.int .i64 x88v35), (.slice x88v36 x88N2 x88C2), (.int .i64 x88v37), (.int .i64 x88v38), (.int .i64 x88v39), (.int .i64 x88v40), (.int .i64 x88v41)]) ∧
 (RUNU PG (storeVar 76 a4 (.agg #[(.int .i64 x88v28), (.int .i64 x88v29), (.int .i64 x88v30), (.int .i64 x88v31), (.int .i64 x88v32), (.int .i64 x88v33), (.int .u64 x88v34), (.int .i64 x88v35), (.slice x88v36 x88N2 x88C2), (.int .i64 x88v37), (.int .i64 x88v38), (.int .i64 x88v39), (.int .i64 x88v40), (.int .i64 x88v41)])) w25 fun w26 =>
 RD PG (loadVar 76 a4) w26 fun v18 =>
 ∃ r42 : Int, ∃ r43 : Int, ∃ r44 : Int, ∃ r45 : Int, ∃ r46 : Int, ∃ r47 : Int, ∃ r48 : Int, ∃ r49 : Int, ∃ (r50 : Option Addr) (rN3 rC3 : Nat), ∃ r51 : Int, ∃ r52 : Int, ∃ r53 : Int, ∃ r54 : Int, ∃ r55 : Int, v18 = (.agg #[(.int .i64 r42), (.int .i64 r43), (.int .i64 r44), (.int .i64 r45), (.int .i64 r46), (.int .i64 r47), (.int .u64 r48), (.int .i64 r49), (.slice r50 rN3 rC3), (.int .i64 r51), (.int .i64 r52), (.int .i64 r53), (.int .i64 r54), (.int .i64 r55)]) ∧
 (Q (.agg #[(.int .i64 r42), (.int .i64 r43), (.int .i64 r44), (.int .i64 r45), (.int .i64 r46), (.int .i64 r47), (.int .u64 r48), (.int .i64 r49), (.slice r50 rN3 rC3), (.int .i64 r51), (.int .i64 r52), (.int .i64 r53), (.int .i64 r54), (.int .i64 r55)]) w26))))
 (RUNU PG (storeVar 74 (Addr.add a2 8) (.slice x48v1 x48N1 x48C1)) (w22.drew) fun w27 =>
 RD PG (loadVar 76 a2) w27 fun v19 =>
 ∃ x88v42 : Int, ∃ x88v43 : Int, ∃ x88v44 : Int, ∃ x88v45 : Int, ∃ x88v46 : Int, ∃ x88v47 : Int, ∃ x88v48 : Int, ∃ x88v49 : Int, ∃ (x88v50 : Option Addr) (x88N3 x88C3 : Nat), ∃ x88v51 : Int, ∃ x88v52 : Int, ∃ x88v53 : Int, ∃ x88v54 : Int, ∃ x88v55 : Int, v19 = (.agg #[(.int .i64 x88v42), (.int .i64 x88v43), (.int .i64 x88v44), (.int .i64 x88v45), (.int .i64 x88v46), (.int .i64 x88v47), (.int .u64 x88v48), (.int .i64 x88v49), (.slice x88v50 x88N3 x88C3), (.int .i64 x88v51), (.int .i64 x88v52), (.int .i64 x88v53), (.int .i64 x88v54), (.int .i64 x88v55)]) ∧
 (RUNU PG (storeVar 76 a4 (.agg #[(.int .i64 x88v42), (.int .i64 x88v43), (.int .i64 x88v44), (.int .i64 x88v45), (.int .i64 x88v46), (.int .i64 x88v47), (.int .u64 x88v48), (.int .i64 x88v49), (.slice x88v50 x88N3 x88C3), (.int .i64 x88v51), (.int .i64 x88v52), (.int .i64 x88v53), (.int .i64 x88v54), (.int .i64 x88v55)])) w27 fun w28 =>
 RD PG (loadVar 76 a4) w28 fun v21 =>
 ∃ r56 : Int, ∃ r57 : Int, ∃ r58 : Int, ∃ r59 : Int, ∃ r60 : Int, ∃ r61 : Int, ∃ r62 : Int, ∃ r63 : Int, ∃ (r64 : Option Addr) (rN4 rC4 : Nat), ∃ r65 : Int, ∃ r66 : Int, ∃ r67 : Int, ∃ r68 : Int, ∃ r69 : Int, v21 = (.agg #[(.int .i64 r56), (.int .i64 r57), (.int .i64 r58), (.int .i64 r59), (.int .i64 r60), (.int .i64 r61), (.int .u64 r62), (.int .i64 r63), (.slice r64 rN4 rC4), (.int .i64 r65), (.int .i64 r66), (.int .i64 r67), (.int .i64 r68), (.int .i64 r69)]) ∧
 (Q (.agg #[(.int .i64 r56), (.int .i64 r57), (.int .i64 r58), (.int .i64 r59), (.int .i64 r60), (.int .i64 r61), (.int .u64 r62), (.int .i64 r63), (.slice r64 rN4 rC4), (.int .i64 r65), (.int .i64 r66), (.int .i64 r67), (.int .i64 r68), (.int .i64 r69)]) w28)))))))))) ∧
 (RUNL PG (Instr.buildSlice 74 1 #[(0, (.agg #[(.int .i64 x46), (.string x46v1)]))]) (w7.drew) fun x47v2 x47N2 x47C2 w29 =>
 ∃ S6 : World → Prop, (∀ x, S6 x → S x) ∧ S6 w29 ∧
 (RUNL PG (Instr.buildSlice 74 0 #[]) w29 fun x33v1 x33N1 x33C1 w30 =>
 ∃ S7 : World → Prop, (∀ x, S7 x → S6 x) ∧ S7 w30 ∧
 (RUNL PG (Builtin.append_ #[74, 74] 74 #[(.slice x33v1 x33N1 x33C1), (.slice x35 x35N x35C)]) w30 fun x36v2 x36N2 x36C2 w31 =>
 ∃ S8 : World → Prop, (∀ x, S8 x → S7 x) ∧ S8 w31 ∧
 (RUNL PG (Builtin.append_ #[74, 74] 74 #[(.slice x36v2 x36N2 x36C2), (.slice x47v2 x47N2 x47C2)]) w31 fun x48v2 x48N2 x48C2 w32 =>
 LETI (IntKind.i64.wrap ((x48N2 : Int) - (1 : Int))) fun i6 =>
 ∃ I2 : Nat → Int → World → Prop,
 (∃ m6, I2 m6 i6 w32) ∧
 (∀ m7 (i7 : Int) (w33 : World), I2 m7 i7 w33 → (IFB (decide (i7 > (0 : Int)))
 (IDX x48v2 x48N2 i7 fun a57v2 =>
 RDI PG (loadVar 3 (Addr.add (Addr.add a57v2 (Int.toNat i7 * 2)) 0)) .i64 (w33.drew) fun x59v2 =>
 IDX x48v2 x48N2 (IntKind.i64.wrap (i7 - (1 : Int))) fun a63v2 =>
 RDI PG (loadVar 3 (Addr.add (Addr.add a63v2 (Int.toNat (IntKind.i64.wrap (i7 - (1 : Int))) * 2)) 0)) .i64 (w33.drew) fun x65v2 =>
 IFB (decide (x59v2 < x65v2))
 (IDX x48v2 x48N2 (IntKind.i64.wrap (i7 - (1 : Int))) fun a78v2 =>
 RD PG (loadVar 170 (Addr.add a78v2 (Int.toNat (IntKind.i64.wrap (i7 - (1 : Int))) * 2))) ((w33.drew).drew) fun v22 =>
 ∃ x79v4 : Int, ∃ x79v5 : ByteArray, v22 = (.agg #[(.int .i64 x79v4), (.string x79v5)]) ∧
 (IDX x48v2 x48N2 i7 fun a82v2 =>
 RD PG (loadVar 170 (Addr.add a82v2 (Int.toNat i7 * 2))) ((w33.drew).drew) fun v23 =>
 ∃ x83v4 : Int, ∃ x83v5 : ByteArray, v23 = (.agg #[(.int .i64 x83v4), (.string x83v5)]) ∧
 (IDX x48v2 x48N2 i7 fun a84v2 =>
 RUNU PG (storeVar 170 (Addr.add a84v2 (Int.toNat i7 * 2)) (.agg #[(.int .i64 x79v4), (.string x79v5)])) ((w33.drew).drew) fun w34 =>
 IDX x48v2 x48N2 (IntKind.i64.wrap (i7 - (1 : Int))) fun a85v2 =>
 RUNU PG (storeVar 170 (Addr.add a85v2 (Int.toNat (IntKind.i64.wrap (i7 - (1 : Int))) * 2)) (.agg #[(.int .i64 x83v4), (.string x83v5)])) w34 fun w35 =>
 LETI (IntKind.i64.wrap (i7 - (1 : Int))) fun i8 =>
 ∃ m8, m8 < m7 ∧ I2 m8 i8 w35)))
 (RUNU PG (storeVar 74 (Addr.add a2 8) (.slice x48v2 x48N2 x48C2)) (w33.drew) fun w36 =>
 RD PG (loadVar 76 a2) w36 fun v24 =>
 ∃ x88v56 : Int, ∃ x88v57 : Int, ∃ x88v58 : Int, ∃ x88v59 : Int, ∃ x88v60 : Int, ∃ x88v61 : Int, ∃ x88v62 : Int, ∃ x88v63 : Int, ∃ (x88v64 : Option Addr) (x88N4 x88C4 : Nat), ∃ x88v65 : Int, ∃ x88v66 : Int, ∃ x88v67 : Int, ∃ x88v68 : Int, ∃ x88v69 : Int, v24 = (.agg #[(.int .i64 x88v56), (.int .i64 x88v57), (.int .i64 x88v58), (.int .i64 x88v59), (.int .i64 x88v60), (.int .i64 x88v61), (.int .u64 x88v62), (.int .i64 x88v63), (.slice x88v64 x88N4 x88C4), (.int .i64 x88v65), (.int .i64 x88v66), (.int .i64 x88v67), (.int .i64 x88v68), (.int .i64 x88v69)]) ∧
 (RUNU PG (storeVar 76 a4 (.agg #[(.int .i64 x88v56), (.int .i64 x88v57), (.int .i64 x88v58), (.int .i64 x88v59), (.int .i64 x88v60), (.int .i64 x88v61), (.int .u64 x88v62), (.int .i64 x88v63), (.slice x88v64 x88N4 x88C4), (.int .i64 x88v65), (.int .i64 x88v66), (.int .i64 x88v67), (.int .i64 x88v68), (.int .i64 x88v69)])) w36 fun w37 =>
 RD PG (loadVar 76 a4) w37 fun v26 =>
 ∃ r70 : Int, ∃ r71 : Int, ∃ r72 : Int, ∃ r73 : Int, ∃ r74 : Int, ∃ r75 : Int, ∃ r76 : Int, ∃ r77 : Int, ∃ (r78 : Option Addr) (rN5 rC5 : Nat), ∃ r79 : Int, ∃ r80 : Int, ∃ r81 : Int, ∃ r82 : Int, ∃ r83 : Int, v26 = (.agg #[(.int .i64 r70), (.int .i64 r71), (.int .i64 r72), (.int .i64 r73), (.int .i64 r74), (.int .i64 r75), (.int .u64 r76), (.int .i64 r77), (.slice r78 rN5 rC5), (.int .i64 r79), (.int .i64 r80), (.int .i64 r81), (.int .i64 r82), (.int .i64 r83)]) ∧
 (Q (.agg #[(.int .i64 r70), (.int .i64 r71), (.int .i64 r72), (.int .i64 r73), (.int .i64 r74), (.int .i64 r75), (.int .u64 r76), (.int .i64 r77), (.slice r78 rN5 rC5), (.int .i64 r79), (.int .i64 r80), (.int .i64 r81), (.int .i64 r82), (.int .i64 r83)]) w37))))
 (RUNU PG (storeVar 74 (Addr.add a2 8) (.slice x48v2 x48N2 x48C2)) (w33.drew) fun w38 =>
 RD PG (loadVar 76 a2) w38 fun v27 =>
 ∃ x88v70 : Int, ∃ x88v71 : Int, ∃ x88v72 : Int, ∃ x88v73 : Int, ∃ x88v74 : Int, ∃ x88v75 : Int, ∃ x88v76 : Int, ∃ x88v77 : Int, ∃ (x88v78 : Option Addr) (x88N5 x88C5 : Nat), ∃ x88v79 : Int, ∃ x88v80 : Int, ∃ x88v81 : Int, ∃ x88v82 : Int, ∃ x88v83 : Int, v27 = (.agg #[(.int .i64 x88v70), (.int .i64 x88v71), (.int .i64 x88v72), (.int .i64 x88v73), (.int .i64 x88v74), (.int .i64 x88v75), (.int .u64 x88v76), (.int .i64 x88v77), (.slice x88v78 x88N5 x88C5), (.int .i64 x88v79), (.int .i64 x88v80), (.int .i64 x88v81), (.int .i64 x88v82), (.int .i64 x88v83)]) ∧
 (RUNU PG (storeVar 76 a4 (.agg #[(.int .i64 x88v70), (.int .i64 x88v71), (.int .i64 x88v72), (.int .i64 x88v73), (.int .i64 x88v74), (.int .i64 x88v75), (.int .u64 x88v76), (.int .i64 x88v77), (.slice x88v78 x88N5 x88C5), (.int .i64 x88v79), (.int .i64 x88v80), (.int .i64 x88v81), (.int .i64 x88v82), (.int .i64 x88v83)])) w38 fun w39 =>
 RD PG (loadVar 76 a4) w39 fun v29 =>
 ∃ r84 : Int, ∃ r85 : Int, ∃ r86 : Int, ∃ r87 : Int, ∃ r88 : Int, ∃ r89 : Int, ∃ r90 : Int, ∃ r91 : Int, ∃ (r92 : Option Addr) (rN6 rC6 : Nat), ∃ r93 : Int, ∃ r94 : Int, ∃ r95 : Int, ∃ r96 : Int, ∃ r97 : Int, v29 = (.agg #[(.int .i64 r84), (.int .i64 r85), (.int .i64 r86), (.int .i64 r87), (.int .i64 r88), (.int .i64 r89), (.int .u64 r90), (.int .i64 r91), (.slice r92 rN6 rC6), (.int .i64 r93), (.int .i64 r94), (.int .i64 r95), (.int .i64 r96), (.int .i64 r97)]) ∧
 (Q (.agg #[(.int .i64 r84), (.int .i64 r85), (.int .i64 r86), (.int .i64 r87), (.int .i64 r88), (.int .i64 r89), (.int .u64 r90), (.int .i64 r91), (.slice r92 rN6 rC6), (.int .i64 r93), (.int .i64 r94), (.int .i64 r95), (.int .i64 r96), (.int .i64 r97)]) w39))))))))))))))
theorem eq86 : ∀ (l : Int) (l1 : Int) (l2 : Int) (l3 : Int) (l4 : Int) (l5 : Int) (l6 : Int) (l7 : Int) (l8 : Option Addr) (lN lC : Nat) (l9 : Int) (l10 : Int) (l11 : Int) (l12 : Int) (l13 : Int) (b : ByteArray) (w : World) (Q : Value → World → Prop), vcF PG TB Try.f86 (.s .nil (.s .nil (.s .nil (.cut [(5, 3)] .nil (.s .nil (.s (.s .nil (.u (.loop [(7, 3)] .nil))) .nil)))))) [(.agg #[(.int .i64 l), (.int .i64 l1), (.int .i64 l2), (.int .i64 l3), (.int .i64 l4), (.int .i64 l5), (.int .u64 l6), (.int .i64 l7), (.slice l8 lN lC), (.int .i64 l9), (.int .i64 l10), (.int .i64 l11), (.int .i64 l12), (.int .i64 l13)]), (.string b)] w Q = N86 l l1 l2 l3 l4 l5 l6 l7 l8 lN lC l9 l10 l11 l12 l13 b w Q := by intros; kernel_rfl
theorem call86 {l : Int} {l1 : Int} {l2 : Int} {l3 : Int} {l4 : Int} {l5 : Int} {l6 : Int} {l7 : Int} {l8 : Option Addr} {lN lC : Nat} {l9 : Int} {l10 : Int} {l11 : Int} {l12 : Int} {l13 : Int} {b : ByteArray} {w : World} {Q : Value → World → Prop} (hN : N86 l l1 l2 l3 l4 l5 l6 l7 l8 lN lC l9 l10 l11 l12 l13 b w Q) : CALL PG 86 [(.agg #[(.int .i64 l), (.int .i64 l1), (.int .i64 l2), (.int .i64 l3), (.int .i64 l4), (.int .i64 l5), (.int .u64 l6), (.int .i64 l7), (.slice l8 lN lC), (.int .i64 l9), (.int .i64 l10), (.int .i64 l11), (.int .i64 l12), (.int .i64 l13)]), (.string b)] w Q := calls_vc tabOk Try.func86 (by rw [eq86]; exact hN)

end Go.Br
