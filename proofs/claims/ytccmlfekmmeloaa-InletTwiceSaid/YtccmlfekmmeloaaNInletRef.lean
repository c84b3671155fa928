/- What the code of some functions says, as the core reads it; each reading is checked by the kernel. -/
import Derived.Test.YtccmlfekmmeloaaBrSeat
set_option linter.unusedVariables false
set_option maxRecDepth 100000
namespace Go.Br
open Go Go.Proofs

/-- brougham/broughamref18.New -/
def N32 (sizev : Int) (pieces : Int) (w : World) (Q : Value → World → Prop) : Prop :=
 RUNA PG (Instr.alloc 78 true (.tuple #[])) w fun a4 w1 =>
 IFB (decide (pieces < (1 : Int)))
 (IFB (decide ((1 : Int) > (64 : Int)))
 (∃ S : World → Prop, S (w1.drew) ∧
 ((RUNL PG (Instr.makeSlice 76 (.int .i64 sizev) (.int .i64 sizev)) (w1.drew) fun x10 x10N x10C w2 =>
 ∃ S1 : World → Prop, (∀ x, S1 x → S x) ∧ S1 w2 ∧
 (RUNL PG (Instr.makeSlice 58 (.int .i64 sizev) (.int .i64 sizev)) w2 fun x12 x12N x12C w3 =>
 RD PG (Instr.build 78 #[(1, (.slice x10 x10N x10C)), (2, (.slice x12 x12N x12C)), (3, (.int .i64 (64 : Int)))]) w3 fun v =>
 ∃ x14 : Int, ∃ (x14v1 : Option Addr) (x14N x14C : Nat), ∃ (x14v2 : Option Addr) (x14N1 x14C1 : Nat), ∃ x14v3 : Int, ∃ x14v4 : Int, ∃ x14v5 : Bool, v = (.agg #[(.int .u64 x14), (.slice x14v1 x14N x14C), (.slice x14v2 x14N1 x14C1), (.int .i64 x14v3), (.int .u64 x14v4), (.bool x14v5)]) ∧
 (RUNU PG (storeVar 78 a4 (.agg #[(.int .u64 x14), (.slice x14v1 x14N x14C), (.slice x14v2 x14N1 x14C1), (.int .i64 x14v3), (.int .u64 x14v4), (.bool x14v5)])) w3 fun w4 =>
 RD PG (loadVar 78 a4) w4 fun v2 =>
 ∃ r : Int, ∃ (r1 : Option Addr) (rN rC : Nat), ∃ (r2 : Option Addr) (rN1 rC1 : Nat), ∃ r3 : Int, ∃ r4 : Int, ∃ r5 : Bool, v2 = (.agg #[(.int .u64 r), (.slice r1 rN rC), (.slice r2 rN1 rC1), (.int .i64 r3), (.int .u64 r4), (.bool r5)]) ∧
 (Q (.agg #[(.int .u64 r), (.slice r1 rN rC), (.slice r2 rN1 rC1), (.int .i64 r3), (.int .u64 r4), (.bool r5)]) w4)))) ∧
 (RUNL PG (Instr.makeSlice 58 (.int .i64 sizev) (.int .i64 sizev)) (w1.drew) fun x12v1 x12N1 x12C1 w5 =>
 ∃ S2 : World → Prop, (∀ x, S2 x → S x) ∧ S2 w5 ∧
 (RUNL PG (Instr.makeSlice 76 (.int .i64 sizev) (.int .i64 sizev)) w5 fun x10v1 x10N1 x10C1 w6 =>
 RD PG (Instr.build 78 #[(1, (.slice x10v1 x10N1 x10C1)), (2, (.slice x12v1 x12N1 x12C1)), (3, (.int .i64 (64 : Int)))]) w6 fun v3 =>
 ∃ x14v6 : Int, ∃ (x14v7 : Option Addr) (x14N2 x14C2 : Nat), ∃ (x14v8 : Option Addr) (x14N3 x14C3 : Nat), ∃ x14v9 : Int, ∃ x14v10 : Int, ∃ x14v11 : Bool, v3 = (.agg #[(.int .u64 x14v6), (.slice x14v7 x14N2 x14C2), (.slice x14v8 x14N3 x14C3), (.int .i64 x14v9), (.int .u64 x14v10), (.bool x14v11)]) ∧
 (RUNU PG (storeVar 78 a4 (.agg #[(.int .u64 x14v6), (.slice x14v7 x14N2 x14C2), (.slice x14v8 x14N3 x14C3), (.int .i64 x14v9), (.int .u64 x14v10), (.bool x14v11)])) w6 fun w7 =>
 RD PG (loadVar 78 a4) w7 fun v5 =>
 ∃ r6 : Int, ∃ (r7 : Option Addr) (rN2 rC2 : Nat), ∃ (r8 : Option Addr) (rN3 rC3 : Nat), ∃ r9 : Int, ∃ r10 : Int, ∃ r11 : Bool, v5 = (.agg #[(.int .u64 r6), (.slice r7 rN2 rC2), (.slice r8 rN3 rC3), (.int .i64 r9), (.int .u64 r10), (.bool r11)]) ∧
 (Q (.agg #[(.int .u64 r6), (.slice r7 rN2 rC2), (.slice r8 rN3 rC3), (.int .i64 r9), (.int .u64 r10), (.bool r11)]) w7))))))
 (∃ S3 : World → Prop, S3 (w1.drew) ∧
 ((RUNL PG (Instr.makeSlice 76 (.int .i64 sizev) (.int .i64 sizev)) (w1.drew) fun x10v2 x10N2 x10C2 w8 =>
 ∃ S4 : World → Prop, (∀ x, S4 x → S3 x) ∧ S4 w8 ∧
 (RUNL PG (Instr.makeSlice 58 (.int .i64 sizev) (.int .i64 sizev)) w8 fun x12v2 x12N2 x12C2 w9 =>
 RD PG (Instr.build 78 #[(1, (.slice x10v2 x10N2 x10C2)), (2, (.slice x12v2 x12N2 x12C2)), (3, (.int .i64 (1 : Int)))]) w9 fun v6 =>
 ∃ x14v12 : Int, ∃ (x14v13 : Option Addr) (x14N4 x14C4 : Nat), ∃ (x14v14 : Option Addr) (x14N5 x14C5 : Nat), ∃ x14v15 : Int, ∃ x14v16 : Int, ∃ x14v17 : Bool, v6 = (.agg #[(.int .u64 x14v12), (.slice x14v13 x14N4 x14C4), (.slice x14v14 x14N5 x14C5), (.int .i64 x14v15), (.int .u64 x14v16), (.bool x14v17)]) ∧
 (RUNU PG (storeVar 78 a4 (.agg #[(.int .u64 x14v12), (.slice x14v13 x14N4 x14C4), (.slice x14v14 x14N5 x14C5), (.int .i64 x14v15), (.int .u64 x14v16), (.bool x14v17)])) w9 fun w10 =>
 RD PG (loadVar 78 a4) w10 fun v8 =>
 ∃ r12 : Int, ∃ (r13 : Option Addr) (rN4 rC4 : Nat), ∃ (r14 : Option Addr) (rN5 rC5 : Nat), ∃ r15 : Int, ∃ r16 : Int, ∃ r17 : Bool, v8 = (.agg #[(.int .u64 r12), (.slice r13 rN4 rC4), (.slice r14 rN5 rC5), (.int .i64 r15), (.int .u64 r16), (.bool r17)]) ∧
 (Q (.agg #[(.int .u64 r12), (.slice r13 rN4 rC4), (.slice r14 rN5 rC5), (.int .i64 r15), (.int .u64 r16), (.bool r17)]) w10)))) ∧
 (RUNL PG (Instr.makeSlice 58 (.int .i64 sizev) (.int .i64 sizev)) (w1.drew) fun x12v3 x12N3 x12C3 w11 =>
 ∃ S5 : World → Prop, (∀ x, S5 x → S3 x) ∧ S5 w11 ∧
 (RUNL PG (Instr.makeSlice 76 (.int .i64 sizev) (.int .i64 sizev)) w11 fun x10v3 x10N3 x10C3 w12 =>
 RD PG (Instr.build 78 #[(1, (.slice x10v3 x10N3 x10C3)), (2, (.slice x12v3 x12N3 x12C3)), (3, (.int .i64 (1 : Int)))]) w12 fun v9 =>
 ∃ x14v18 : Int, ∃ (x14v19 : Option Addr) (x14N6 x14C6 : Nat), ∃ (x14v20 : Option Addr) (x14N7 x14C7 : Nat), ∃ x14v21 : Int, ∃ x14v22 : Int, ∃ x14v23 : Bool, v9 = (.agg #[(.int .u64 x14v18), (.slice x14v19 x14N6 x14C6), (.slice x14v20 x14N7 x14C7), (.int .i64 x14v21), (.int .u64 x14v22), (.bool x14v23)]) ∧
 (RUNU PG (storeVar 78 a4 (.agg #[(.int .u64 x14v18), (.slice x14v19 x14N6 x14C6), (.slice x14v20 x14N7 x14C7), (.int .i64 x14v21), (.int .u64 x14v22), (.bool x14v23)])) w12 fun w13 =>
 RD PG (loadVar 78 a4) w13 fun v11 =>
 ∃ r18 : Int, ∃ (r19 : Option Addr) (rN6 rC6 : Nat), ∃ (r20 : Option Addr) (rN7 rC7 : Nat), ∃ r21 : Int, ∃ r22 : Int, ∃ r23 : Bool, v11 = (.agg #[(.int .u64 r18), (.slice r19 rN6 rC6), (.slice r20 rN7 rC7), (.int .i64 r21), (.int .u64 r22), (.bool r23)]) ∧
 (Q (.agg #[(.int .u64 r18), (.slice r19 rN6 rC6), (.slice r20 rN7 rC7), (.int .i64 r21), (.int .u64 r22), (.bool r23)]) w13)))))))
 (IFB (decide (pieces > (64 : Int)))
 (∃ S6 : World → Prop, S6 (w1.drew) ∧
 ((RUNL PG (Instr.makeSlice 76 (.int .i64 sizev) (.int .i64 sizev)) (w1.drew) fun x10v4 x10N4 x10C4 w14 =>
 ∃ S7 : World → Prop, (∀ x, S7 x → S6 x) ∧ S7 w14 ∧
 (RUNL PG (Instr.makeSlice 58 (.int .i64 sizev) (.int .i64 sizev)) w14 fun x12v4 x12N4 x12C4 w15 =>
 RD PG (Instr.build 78 #[(1, (.slice x10v4 x10N4 x10C4)), (2, (.slice x12v4 x12N4 x12C4)), (3, (.int .i64 (64 : Int)))]) w15 fun v12 =>
 ∃ x14v24 : Int, ∃ (x14v25 : Option Addr) (x14N8 x14C8 : Nat), ∃ (x14v26 : Option Addr) (x14N9 x14C9 : Nat), ∃ x14v27 : Int, ∃ x14v28 : Int, ∃ x14v29 : Bool, v12 = (.agg #[(.int .u64 x14v24), (.slice x14v25 x14N8 x14C8), (.slice x14v26 x14N9 x14C9), (.int .i64 x14v27), (.int .u64 x14v28), (.bool x14v29)]) ∧
 (RUNU PG (storeVar 78 a4 (.agg #[(.int .u64 x14v24), (.slice x14v25 x14N8 x14C8), (.slice x14v26 x14N9 x14C9), (.int .i64 x14v27), (.int .u64 x14v28), (.bool x14v29)])) w15 fun w16 =>
 RD PG (loadVar 78 a4) w16 fun v14 =>
 ∃ r24 : Int, ∃ (r25 : Option Addr) (rN8 rC8 : Nat), ∃ (r26 : Option Addr) (rN9 rC9 : Nat), ∃ r27 : Int, ∃ r28 : Int, ∃ r29 : Bool, v14 = (.agg #[(.int .u64 r24), (.slice r25 rN8 rC8), (.slice r26 rN9 rC9), (.int .i64 r27), (.int .u64 r28), (.bool r29)]) ∧
 (Q (.agg #[(.int .u64 r24), (.slice r25 rN8 rC8), (.slice r26 rN9 rC9), (.int .i64 r27), (.int .u64 r28), (.bool r29)]) w16)))) ∧
 (RUNL PG (Instr.makeSlice 58 (.int .i64 sizev) (.int .i64 sizev)) (w1.drew) fun x12v5 x12N5 x12C5 w17 =>
 ∃ S8 : World → Prop, (∀ x, S8 x → S6 x) ∧ S8 w17 ∧
 (RUNL PG (Instr.makeSlice 76 (.int .i64 sizev) (.int .i64 sizev)) w17 fun x10v5 x10N5 x10C5 w18 =>
 RD PG (Instr.build 78 #[(1, (.slice x10v5 x10N5 x10C5)), (2, (.slice x12v5 x12N5 x12C5)), (3, (.int .i64 (64 : Int)))]) w18 fun v15 =>
 ∃ x14v30 : Int, ∃ (x14v31 : Option Addr) (x14N10 x14C10 : Nat), ∃ (x14v32 : Option Addr) (x14N11 x14C11 : Nat), ∃ x14v33 : Int, ∃ x14v34 : Int, ∃ x14v35 : Bool, v15 = (.agg #[(.int .u64 x14v30), (.slice x14v31 x14N10 x14C10), (.slice x14v32 x14N11 x14C11), (.int .i64 x14v33), (.int .u64 x14v34), (.bool x14v35)]) ∧
 (RUNU PG (storeVar 78 a4 (.agg #[(.int .u64 x14v30), (.slice x14v31 x14N10 x14C10), (.slice x14v32 x14N11 x14C11), (.int .i64 x14v33), (.int .u64 x14v34), (.bool x14v35)])) w18 fun w19 =>
 RD PG (loadVar 78 a4) w19 fun v17 =>
 ∃ r30 : Int, ∃ (r31 : Option Addr) (rN10 rC10 : Nat), ∃ (r32 : Option Addr) (rN11 rC11 : Nat), ∃ r33 : Int, ∃ r34 : Int, ∃ r35 : Bool, v17 = (.agg #[(.int .u64 r30), (.slice r31 rN10 rC10), (.slice r32 rN11 rC11), (.int .i64 r33), (.int .u64 r34), (.bool r35)]) ∧
 (Q (.agg #[(.int .u64 r30), (.slice r31 rN10 rC10), (.slice r32 rN11 rC11), (.int .i64 r33), (.int .u64 r34), (.bool r35)]) w19))))))
 (∃ S9 : World → Prop, S9 (w1.drew) ∧
 ((RUNL PG (Instr.makeSlice 76 (.int .i64 sizev) (.int .i64 sizev)) (w1.drew) fun x10v6 x10N6 x10C6 w20 =>
 ∃ S10 : World → Prop, (∀ x, S10 x → S9 x) ∧ S10 w20 ∧
 (RUNL PG (Instr.makeSlice 58 (.int .i64 sizev) (.int .i64 sizev)) w20 fun x12v6 x12N6 x12C6 w21 =>
 RD PG (Instr.build 78 #[(1, (.slice x10v6 x10N6 x10C6)), (2, (.slice x12v6 x12N6 x12C6)), (3, (.int .i64 pieces))]) w21 fun v18 =>
 ∃ x14v36 : Int, ∃ (x14v37 : Option Addr) (x14N12 x14C12 : Nat), ∃ (x14v38 : Option Addr) (x14N13 x14C13 : Nat), ∃ x14v39 : Int, ∃ x14v40 : Int, ∃ x14v41 : Bool, v18 = (.agg #[(.int .u64 x14v36), (.slice x14v37 x14N12 x14C12), (.slice x14v38 x14N13 x14C13), (.int .i64 x14v39), (.int .u64 x14v40), (.bool x14v41)]) ∧
 (RUNU PG (storeVar 78 a4 (.agg #[(.int .u64 x14v36), (.slice x14v37 x14N12 x14C12), (.slice x14v38 x14N13 x14C13), (.int .i64 x14v39), (.int .u64 x14v40), (.bool x14v41)])) w21 fun w22 =>
 RD PG (loadVar 78 a4) w22 fun v20 =>
 ∃ r36 : Int, ∃ (r37 : Option Addr) (rN12 rC12 : Nat), ∃ (r38 : Option Addr) (rN13 rC13 : Nat), ∃ r39 : Int, ∃ r40 : Int, ∃ r41 : Bool, v20 = (.agg #[(.int .u64 r36), (.slice r37 rN12 rC12), (.slice r38 rN13 rC13), (.int .i64 r39), (.int .u64 r40), (.bool r41)]) ∧
 (Q (.agg #[(.int .u64 r36), (.slice r37 rN12 rC12), (.slice r38 rN13 rC13), (.int .i64 r39), (.int .u64 r40), (.bool r41)]) w22)))) ∧
 (RUNL PG (Instr.makeSlice 58 (.int .i64 sizev) (.int .i64 sizev)) (w1.drew) fun x12v7 x12N7 x12C7 w23 =>
 ∃ S11 : World → Prop, (∀ x, S11 x → S9 x) ∧ S11 w23 ∧
 (RUNL PG (Instr.makeSlice 76 (.int .i64 sizev) (.int .i64 sizev)) w23 fun x10v7 x10N7 x10C7 w24 =>
 RD PG (Instr.build 78 #[(1, (.slice x10v7 x10N7 x10C7)), (2, (.slice x12v7 x12N7 x12C7)), (3, (.int .i64 pieces))]) w24 fun v21 =>
 ∃ x14v42 : Int, ∃ (x14v43 : Option Addr) (x14N14 x14C14 : Nat), ∃ (x14v44 : Option Addr) (x14N15 x14C15 : Nat), ∃ x14v45 : Int, ∃ x14v46 : Int, ∃ x14v47 : Bool, v21 = (.agg #[(.int .u64 x14v42), (.slice x14v43 x14N14 x14C14), (.slice x14v44 x14N15 x14C15), (.int .i64 x14v45), (.int .u64 x14v46), (.bool x14v47)]) ∧
 (RUNU PG (storeVar 78 a4 (.agg #[(.int .u64 x14v42), (.slice x14v43 x14N14 x14C14), (.slice x14v44 x14N15 x14C15), (.int .i64 x14v45), (.int .u64 x14v46), (.bool x14v47)])) w24 fun w25 =>
 RD PG (loadVar 78 a4) w25 fun v23 =>
 ∃ r42 : Int, ∃ (r43 : Option Addr) (rN14 rC14 : Nat), ∃ (r44 : Option Addr) (rN15 rC15 : Nat), ∃ r45 : Int, ∃ r46 : Int, ∃ r47 : Bool, v23 = (.agg #[(.int .u64 r42), (.slice r43 rN14 rC14), (.slice r44 rN15 rC15), (.int .i64 r45), (.int .u64 r46), (.bool r47)]) ∧
 (Q (.agg #[(.int .u64 r42), (.slice r43 rN14 rC14), (.slice r44 rN15 rC15), (.int .i64 r45), (.int .u64 r46), (.bool r47)]) w25)))))))
theorem eq32 : ∀ (sizev : Int) (pieces : Int) (w : World) (Q : Value → World → Prop), vcF PG TB Try.f32 .nil [(.int .i64 sizev), (.int .i64 pieces)] w Q = N32 sizev pieces w Q := by intros; kernel_rfl
theorem call32 {sizev : Int} {pieces : Int} {w : World} {Q : Value → World → Prop} (hN : N32 sizev pieces w Q) : CALL PG 32 [(.int .i64 sizev), (.int .i64 pieces)] w Q := calls_vc tabOk Try.func32 (by rw [eq32]; exact hN)

/-- brougham/broughamref18.Fin -/
def N92 (x : Int) (x1 : Option Addr) (xN xC : Nat) (x2 : Option Addr) (xN1 xC1 : Nat) (x3 : Int) (x4 : Int) (x5 : Bool) (endv : Int) (w : World) (Q : Value → World → Prop) : Prop :=
 RUNA PG (Instr.box 78 (.agg #[(.int .u64 x), (.slice x1 xN xC), (.slice x2 xN1 xC1), (.int .i64 x3), (.int .u64 x4), (.bool x5)])) w fun a2 w1 =>
 RUNA PG (Instr.alloc 78 true (.tuple #[])) w1 fun a4 w2 =>
 RDB PG (loadVar 4 (Addr.add a2 5)) w2 fun x8 =>
 IFB x8
 (∃ S : World → Prop, S (w2.drew) ∧
 (RDS PG (loadVar 78 a2) S fun v =>
 ∃ x9 : Int, ∃ (x9v1 : Option Addr) (x9N x9C : Nat), ∃ (x9v2 : Option Addr) (x9N1 x9C1 : Nat), ∃ x9v3 : Int, ∃ x9v4 : Int, ∃ x9v5 : Bool, v = (.agg #[(.int .u64 x9), (.slice x9v1 x9N x9C), (.slice x9v2 x9N1 x9C1), (.int .i64 x9v3), (.int .u64 x9v4), (.bool x9v5)]) ∧
 (RDSI PG (loadVar 42 (Addr.add a2 4)) .u64 S fun x11 =>
 RUNU PG (storeVar 78 a4 (.agg #[(.int .u64 x9), (.slice x9v1 x9N x9C), (.slice x9v2 x9N1 x9C1), (.int .i64 x9v3), (.int .u64 x9v4), (.bool x9v5)])) (w2.drew) fun w3 =>
 ∃ S1 : World → Prop, (∀ x, S1 x → S x) ∧ S1 w3 ∧
 (LETB (x11 == endv) fun x5v1 =>
 RD PG (loadVar 78 a4) w3 fun v2 =>
 ∃ r : Int, ∃ (r1 : Option Addr) (rN rC : Nat), ∃ (r2 : Option Addr) (rN1 rC1 : Nat), ∃ r3 : Int, ∃ r4 : Int, ∃ r5 : Bool, v2 = (.agg #[(.int .u64 r), (.slice r1 rN rC), (.slice r2 rN1 rC1), (.int .i64 r3), (.int .u64 r4), (.bool r5)]) ∧
 (Q (.tuple #[(.agg #[(.int .u64 r), (.slice r1 rN rC), (.slice r2 rN1 rC1), (.int .i64 r3), (.int .u64 r4), (.bool r5)]), (.bool x5v1)]) w3)))))
 (RD PG (loadVar 78 a2) w2 fun v3 =>
 ∃ x15 : Int, ∃ (x15v1 : Option Addr) (x15N x15C : Nat), ∃ (x15v2 : Option Addr) (x15N1 x15C1 : Nat), ∃ x15v3 : Int, ∃ x15v4 : Int, ∃ x15v5 : Bool, v3 = (.agg #[(.int .u64 x15), (.slice x15v1 x15N x15C), (.slice x15v2 x15N1 x15C1), (.int .i64 x15v3), (.int .u64 x15v4), (.bool x15v5)]) ∧
 (CALL PG 125 [(.agg #[(.int .u64 x15), (.slice x15v1 x15N x15C), (.slice x15v2 x15N1 x15C1), (.int .i64 x15v3), (.int .u64 x15v4), (.bool x15v5)])] w2 fun v4 w4 =>
 ∃ x16 : Int, v4 = (.int .u64 x16) ∧
 (IFB (decide (endv < x16))
 (RD PG (loadVar 78 a2) w4 fun v5 =>
 ∃ x18 : Int, ∃ (x18v1 : Option Addr) (x18N x18C : Nat), ∃ (x18v2 : Option Addr) (x18N1 x18C1 : Nat), ∃ x18v3 : Int, ∃ x18v4 : Int, ∃ x18v5 : Bool, v5 = (.agg #[(.int .u64 x18), (.slice x18v1 x18N x18C), (.slice x18v2 x18N1 x18C1), (.int .i64 x18v3), (.int .u64 x18v4), (.bool x18v5)]) ∧
 (RUNU PG (storeVar 78 a4 (.agg #[(.int .u64 x18), (.slice x18v1 x18N x18C), (.slice x18v2 x18N1 x18C1), (.int .i64 x18v3), (.int .u64 x18v4), (.bool x18v5)])) w4 fun w5 =>
 RD PG (loadVar 78 a4) w5 fun v7 =>
 ∃ r6 : Int, ∃ (r7 : Option Addr) (rN2 rC2 : Nat), ∃ (r8 : Option Addr) (rN3 rC3 : Nat), ∃ r9 : Int, ∃ r10 : Int, ∃ r11 : Bool, v7 = (.agg #[(.int .u64 r6), (.slice r7 rN2 rC2), (.slice r8 rN3 rC3), (.int .i64 r9), (.int .u64 r10), (.bool r11)]) ∧
 (Q (.tuple #[(.agg #[(.int .u64 r6), (.slice r7 rN2 rC2), (.slice r8 rN3 rC3), (.int .i64 r9), (.int .u64 r10), (.bool r11)]), (.bool false)]) w5)))
 (∃ I : Nat → Int → World → Prop,
 (∃ m, I m (0 : Int) w4) ∧
 (∀ m1 (i : Int) (w6 : World), I m1 i w6 → (RDL PG (loadVar 76 (Addr.add a2 1)) w6 fun x21 x21N x21C =>
 IFB (decide (i < (x21N : Int)))
 (RDL PG (loadVar 76 (Addr.add a2 1)) w6 fun x27 x27N x27C =>
 IDX x27 x27N i fun a29 =>
 RDB PG (loadVar 4 (Addr.add a29 (Int.toNat i * 1))) w6 fun x30 =>
 IFB x30
 (RDI PG (loadVar 42 (Addr.add a2 0)) .u64 w6 fun x33 =>
 IFB (decide ((IntKind.u64.wrap (x33 + (IntKind.u64.wrap i))) ≥ endv))
 (RD PG (loadVar 78 a2) w6 fun v8 =>
 ∃ x40 : Int, ∃ (x40v1 : Option Addr) (x40N x40C : Nat), ∃ (x40v2 : Option Addr) (x40N1 x40C1 : Nat), ∃ x40v3 : Int, ∃ x40v4 : Int, ∃ x40v5 : Bool, v8 = (.agg #[(.int .u64 x40), (.slice x40v1 x40N x40C), (.slice x40v2 x40N1 x40C1), (.int .i64 x40v3), (.int .u64 x40v4), (.bool x40v5)]) ∧
 (RUNU PG (storeVar 78 a4 (.agg #[(.int .u64 x40), (.slice x40v1 x40N x40C), (.slice x40v2 x40N1 x40C1), (.int .i64 x40v3), (.int .u64 x40v4), (.bool x40v5)])) w6 fun w7 =>
 RD PG (loadVar 78 a4) w7 fun v10 =>
 ∃ r12 : Int, ∃ (r13 : Option Addr) (rN4 rC4 : Nat), ∃ (r14 : Option Addr) (rN5 rC5 : Nat), ∃ r15 : Int, ∃ r16 : Int, ∃ r17 : Bool, v10 = (.agg #[(.int .u64 r12), (.slice r13 rN4 rC4), (.slice r14 rN5 rC5), (.int .i64 r15), (.int .u64 r16), (.bool r17)]) ∧
 (Q (.tuple #[(.agg #[(.int .u64 r12), (.slice r13 rN4 rC4), (.slice r14 rN5 rC5), (.int .i64 r15), (.int .u64 r16), (.bool r17)]), (.bool false)]) w7)))
 (LETI (IntKind.i64.wrap (i + (1 : Int))) fun i1 =>
 ∃ m2, m2 < m1 ∧ I m2 i1 w6))
 (LETI (IntKind.i64.wrap (i + (1 : Int))) fun i2 =>
 ∃ m3, m3 < m1 ∧ I m3 i2 w6))
 (RUNU PG (storeVar 4 (Addr.add a2 5) (.bool true)) w6 fun w8 =>
 RUNU PG (storeVar 42 (Addr.add a2 4) (.int .u64 endv)) w8 fun w9 =>
 RD PG (loadVar 78 a2) w9 fun v11 =>
 ∃ x44 : Int, ∃ (x44v1 : Option Addr) (x44N x44C : Nat), ∃ (x44v2 : Option Addr) (x44N1 x44C1 : Nat), ∃ x44v3 : Int, ∃ x44v4 : Int, ∃ x44v5 : Bool, v11 = (.agg #[(.int .u64 x44), (.slice x44v1 x44N x44C), (.slice x44v2 x44N1 x44C1), (.int .i64 x44v3), (.int .u64 x44v4), (.bool x44v5)]) ∧
 (RUNU PG (storeVar 78 a4 (.agg #[(.int .u64 x44), (.slice x44v1 x44N x44C), (.slice x44v2 x44N1 x44C1), (.int .i64 x44v3), (.int .u64 x44v4), (.bool x44v5)])) w9 fun w10 =>
 RD PG (loadVar 78 a4) w10 fun v13 =>
 ∃ r18 : Int, ∃ (r19 : Option Addr) (rN6 rC6 : Nat), ∃ (r20 : Option Addr) (rN7 rC7 : Nat), ∃ r21 : Int, ∃ r22 : Int, ∃ r23 : Bool, v13 = (.agg #[(.int .u64 r18), (.slice r19 rN6 rC6), (.slice r20 rN7 rC7), (.int .i64 r21), (.int .u64 r22), (.bool r23)]) ∧
 (Q (.tuple #[(.agg #[(.int .u64 r18), (.slice r19 rN6 rC6), (.slice r20 rN7 rC7), (.int .i64 r21), (.int .u64 r22), (.bool r23)]), (.bool true)]) w10)))))))))
theorem eq92 : ∀ (x : Int) (x1 : Option Addr) (xN xC : Nat) (x2 : Option Addr) (xN1 xC1 : Nat) (x3 : Int) (x4 : Int) (x5 : Bool) (endv : Int) (w : World) (Q : Value → World → Prop), vcF PG TB Try.f92 (.s .nil (.s .nil (.s .nil (.s (.s .nil (.u (.loop [(6, 3)] .nil))) .nil)))) [(.agg #[(.int .u64 x), (.slice x1 xN xC), (.slice x2 xN1 xC1), (.int .i64 x3), (.int .u64 x4), (.bool x5)]), (.int .u64 endv)] w Q = N92 x x1 xN xC x2 xN1 xC1 x3 x4 x5 endv w Q := by intros; kernel_rfl
theorem call92 {x : Int} {x1 : Option Addr} {xN xC : Nat} {x2 : Option Addr} {xN1 xC1 : Nat} {x3 : Int} {x4 : Int} {x5 : Bool} {endv : Int} {w : World} {Q : Value → World → Prop} (hN : N92 x x1 xN xC x2 xN1 xC1 x3 x4 x5 endv w Q) : CALL PG 92 [(.agg #[(.int .u64 x), (.slice x1 xN xC), (.slice x2 xN1 xC1), (.int .i64 x3), (.int .u64 x4), (.bool x5)]), (.int .u64 endv)] w Q := calls_vc tabOk Try.func92 (by rw [eq92]; exact hN)

/-- brougham/broughamref18.Next -/
def N125 (x : Int) (x1 : Option Addr) (xN xC : Nat) (x2 : Option Addr) (xN1 xC1 : Nat) (x3 : Int) (x4 : Int) (x5 : Bool) (w : World) (Q : Value → World → Prop) : Prop :=
 RUNA PG (Instr.box 78 (.agg #[(.int .u64 x), (.slice x1 xN xC), (.slice x2 xN1 xC1), (.int .i64 x3), (.int .u64 x4), (.bool x5)])) w fun a1 w1 =>
 ∃ I : Nat → Int → World → Prop,
 (∃ m, I m (0 : Int) w1) ∧
 (∀ m1 (n : Int) (w2 : World), I m1 n w2 → (RDL PG (loadVar 76 (Addr.add a1 1)) w2 fun x6 x6N x6C =>
 IFB (decide (n < (x6N : Int)))
 (RDL PG (loadVar 76 (Addr.add a1 1)) w2 fun x11 x11N x11C =>
 IDX x11 x11N n fun a13 =>
 RDB PG (loadVar 4 (Addr.add a13 (Int.toNat n * 1))) w2 fun x14 =>
 IFB x14
 (LETI (IntKind.i64.wrap (n + (1 : Int))) fun n1 =>
 ∃ m2, m2 < m1 ∧ I m2 n1 w2)
 (RDI PG (loadVar 42 (Addr.add a1 0)) .u64 w2 fun x19 =>
 LETI (IntKind.u64.wrap (x19 + (IntKind.u64.wrap n))) fun x2v1 =>
 Q (.int .u64 x2v1) w2))
 (RDI PG (loadVar 42 (Addr.add a1 0)) .u64 w2 fun x19v1 =>
 LETI (IntKind.u64.wrap (x19v1 + (IntKind.u64.wrap n))) fun x2v2 =>
 Q (.int .u64 x2v2) w2)))
theorem eq125 : ∀ (x : Int) (x1 : Option Addr) (xN xC : Nat) (x2 : Option Addr) (xN1 xC1 : Nat) (x3 : Int) (x4 : Int) (x5 : Bool) (w : World) (Q : Value → World → Prop), vcF PG TB Try.f125 (.s .nil (.s .nil (.s (.u (.loop [(3, 3)] .nil)) .nil))) [(.agg #[(.int .u64 x), (.slice x1 xN xC), (.slice x2 xN1 xC1), (.int .i64 x3), (.int .u64 x4), (.bool x5)])] w Q = N125 x x1 xN xC x2 xN1 xC1 x3 x4 x5 w Q := by intros; kernel_rfl
theorem call125 {x : Int} {x1 : Option Addr} {xN xC : Nat} {x2 : Option Addr} {xN1 xC1 : Nat} {x3 : Int} {x4 : Int} {x5 : Bool} {w : World} {Q : Value → World → Prop} (hN : N125 x x1 xN xC x2 xN1 xC1 x3 x4 x5 w Q) : CALL PG 125 [(.agg #[(.int .u64 x), (.slice x1 xN xC), (.slice x2 xN1 xC1), (.int .i64 x3), (.int .u64 x4), (.bool x5)])] w Q := calls_vc tabOk Try.func125 (by rw [eq125]; exact hN)

/-- brougham/broughamref18.Ended -/
def N126 (x : Int) (x1 : Option Addr) (xN xC : Nat) (x2 : Option Addr) (xN1 xC1 : Nat) (x3 : Int) (x4 : Int) (x5 : Bool) (w : World) (Q : Value → World → Prop) : Prop :=
 RUNA PG (Instr.box 78 (.agg #[(.int .u64 x), (.slice x1 xN xC), (.slice x2 xN1 xC1), (.int .i64 x3), (.int .u64 x4), (.bool x5)])) w fun a1 w1 =>
 ∃ S : World → Prop, S (w1.drew) ∧
 (RDSB PG (loadVar 4 (Addr.add a1 5)) S fun x4v1 =>
 IFB x4v1
 (RDSI PG (loadVar 42 (Addr.add a1 4)) .u64 S fun x7 =>
 RDS PG (loadVar 78 a1) S fun v =>
 ∃ x8 : Int, ∃ (x8v1 : Option Addr) (x8N x8C : Nat), ∃ (x8v2 : Option Addr) (x8N1 x8C1 : Nat), ∃ x8v3 : Int, ∃ x8v4 : Int, ∃ x8v5 : Bool, v = (.agg #[(.int .u64 x8), (.slice x8v1 x8N x8C), (.slice x8v2 x8N1 x8C1), (.int .i64 x8v3), (.int .u64 x8v4), (.bool x8v5)]) ∧
 (CALL PG 125 [(.agg #[(.int .u64 x8), (.slice x8v1 x8N x8C), (.slice x8v2 x8N1 x8C1), (.int .i64 x8v3), (.int .u64 x8v4), (.bool x8v5)])] (w1.drew) fun v1 w2 =>
 ∃ x9 : Int, v1 = (.int .u64 x9) ∧
 (∃ S1 : World → Prop, (∀ x, S1 x → S x) ∧ S1 w2 ∧
 (LETB (x7 == x9) fun x2v1 =>
 Q (.bool x2v1) w2))))
 (LETB false fun x2v2 =>
 Q (.bool x2v2) (w1.drew)))
theorem eq126 : ∀ (x : Int) (x1 : Option Addr) (xN xC : Nat) (x2 : Option Addr) (xN1 xC1 : Nat) (x3 : Int) (x4 : Int) (x5 : Bool) (w : World) (Q : Value → World → Prop), vcF PG TB Try.f126 .nil [(.agg #[(.int .u64 x), (.slice x1 xN xC), (.slice x2 xN1 xC1), (.int .i64 x3), (.int .u64 x4), (.bool x5)])] w Q = N126 x x1 xN xC x2 xN1 xC1 x3 x4 x5 w Q := by intros; kernel_rfl
theorem call126 {x : Int} {x1 : Option Addr} {xN xC : Nat} {x2 : Option Addr} {xN1 xC1 : Nat} {x3 : Int} {x4 : Int} {x5 : Bool} {w : World} {Q : Value → World → Prop} (hN : N126 x x1 xN xC x2 xN1 xC1 x3 x4 x5 w Q) : CALL PG 126 [(.agg #[(.int .u64 x), (.slice x1 xN xC), (.slice x2 xN1 xC1), (.int .i64 x3), (.int .u64 x4), (.bool x5)])] w Q := calls_vc tabOk Try.func126 (by rw [eq126]; exact hN)

/-- brougham/broughamref18.Edge -/
def N127 (x : Int) (x1 : Option Addr) (xN xC : Nat) (x2 : Option Addr) (xN1 xC1 : Nat) (x3 : Int) (x4 : Int) (x5 : Bool) (w : World) (Q : Value → World → Prop) : Prop :=
 RUNA PG (Instr.box 78 (.agg #[(.int .u64 x), (.slice x1 xN xC), (.slice x2 xN1 xC1), (.int .i64 x3), (.int .u64 x4), (.bool x5)])) w fun a1 w1 =>
 RDI PG (loadVar 42 (Addr.add a1 0)) .u64 w1 fun x4v1 =>
 RDL PG (loadVar 76 (Addr.add a1 1)) w1 fun x6 x6N x6C =>
 LETI (IntKind.u64.wrap (x4v1 + (IntKind.u64.wrap (x6N : Int)))) fun x2v1 =>
 Q (.int .u64 x2v1) w1
theorem eq127 : ∀ (x : Int) (x1 : Option Addr) (xN xC : Nat) (x2 : Option Addr) (xN1 xC1 : Nat) (x3 : Int) (x4 : Int) (x5 : Bool) (w : World) (Q : Value → World → Prop), vcF PG TB Try.f127 .nil [(.agg #[(.int .u64 x), (.slice x1 xN xC), (.slice x2 xN1 xC1), (.int .i64 x3), (.int .u64 x4), (.bool x5)])] w Q = N127 x x1 xN xC x2 xN1 xC1 x3 x4 x5 w Q := by intros; kernel_rfl
theorem call127 {x : Int} {x1 : Option Addr} {xN xC : Nat} {x2 : Option Addr} {xN1 xC1 : Nat} {x3 : Int} {x4 : Int} {x5 : Bool} {w : World} {Q : Value → World → Prop} (hN : N127 x x1 xN xC x2 xN1 xC1 x3 x4 x5 w Q) : CALL PG 127 [(.agg #[(.int .u64 x), (.slice x1 xN xC), (.slice x2 xN1 xC1), (.int .i64 x3), (.int .u64 x4), (.bool x5)])] w Q := calls_vc tabOk Try.func127 (by rw [eq127]; exact hN)

/-- brougham/broughamref18.pieces -/
def N128 (x : Int) (x1 : Option Addr) (xN xC : Nat) (x2 : Option Addr) (xN1 xC1 : Nat) (x3 : Int) (x4 : Int) (x5 : Bool) (w : World) (Q : Value → World → Prop) : Prop :=
 RUNA PG (Instr.box 78 (.agg #[(.int .u64 x), (.slice x1 xN xC), (.slice x2 xN1 xC1), (.int .i64 x3), (.int .u64 x4), (.bool x5)])) w fun a1 w1 =>
 ∃ S : World → Prop, S (w1.drew) ∧
 (RDS PG (loadVar 78 a1) S fun v =>
 ∃ x5v1 : Int, ∃ (x5v2 : Option Addr) (x5N x5C : Nat), ∃ (x5v3 : Option Addr) (x5N1 x5C1 : Nat), ∃ x5v4 : Int, ∃ x5v5 : Int, ∃ x5v6 : Bool, v = (.agg #[(.int .u64 x5v1), (.slice x5v2 x5N x5C), (.slice x5v3 x5N1 x5C1), (.int .i64 x5v4), (.int .u64 x5v5), (.bool x5v6)]) ∧
 (RDSI PG (loadVar 42 (Addr.add a1 0)) .u64 S fun x8 =>
 CALL PG 125 [(.agg #[(.int .u64 x5v1), (.slice x5v2 x5N x5C), (.slice x5v3 x5N1 x5C1), (.int .i64 x5v4), (.int .u64 x5v5), (.bool x5v6)])] (w1.drew) fun v1 w2 =>
 ∃ x6 : Int, v1 = (.int .u64 x6) ∧
 (∃ S1 : World → Prop, (∀ x, S1 x → S x) ∧ S1 w2 ∧
 (LETI (IntKind.i64.wrap (IntKind.u64.wrap (x6 - x8))) fun i =>
 ∃ I : Nat → Option Addr → Nat → Nat → Int → World → Prop,
 (∃ m, I m none 0 0 i w2) ∧
 (∀ m1 (out : Option Addr) (outN outC : Nat) (i1 : Int) (w3 : World), I m1 out outN outC i1 w3 → (RDL PG (loadVar 76 (Addr.add a1 1)) w3 fun x13 x13N x13C =>
 IFB (decide (i1 < (x13N : Int)))
 (RDL PG (loadVar 76 (Addr.add a1 1)) w3 fun x19 x19N x19C =>
 IDX x19 x19N i1 fun a21 =>
 RDB PG (loadVar 4 (Addr.add a21 (Int.toNat i1 * 1))) w3 fun x22 =>
 IFB x22
 (RDI PG (loadVar 42 (Addr.add a1 0)) .u64 w3 fun x25 =>
 RDI PG (loadVar 42 (Addr.add a1 0)) .u64 w3 fun x30 =>
 RD PG (Instr.build 266 #[(0, (.int .u64 (IntKind.u64.wrap (x25 + (IntKind.u64.wrap i1))))), (1, (.int .u64 (IntKind.u64.wrap ((IntKind.u64.wrap (x30 + (IntKind.u64.wrap i1))) + (1 : Int)))))]) w3 fun v2 =>
 ∃ x35 : Int, ∃ x35v1 : Int, v2 = (.agg #[(.int .u64 x35), (.int .u64 x35v1)]) ∧
 (CALL PG 146 [(.slice out outN outC), (.agg #[(.int .u64 x35), (.int .u64 x35v1)])] w3 fun v3 w4 =>
 ∃ (x36 : Option Addr) (x36N x36C : Nat), v3 = (.slice x36 x36N x36C) ∧
 (LETI (IntKind.i64.wrap (i1 + (1 : Int))) fun i2 =>
 ∃ m2, m2 < m1 ∧ I m2 x36 x36N x36C i2 w4)))
 (LETI (IntKind.i64.wrap (i1 + (1 : Int))) fun i3 =>
 ∃ m3, m3 < m1 ∧ I m3 out outN outC i3 w3))
 (Q (.slice out outN outC) w3)))))))
theorem eq128 : ∀ (x : Int) (x1 : Option Addr) (xN xC : Nat) (x2 : Option Addr) (xN1 xC1 : Nat) (x3 : Int) (x4 : Int) (x5 : Bool) (w : World) (Q : Value → World → Prop), vcF PG TB Try.f128 (.s .nil (.s .nil (.s (.s .nil (.u (.loop [(3, 224), (4, 3)] .nil))) .nil))) [(.agg #[(.int .u64 x), (.slice x1 xN xC), (.slice x2 xN1 xC1), (.int .i64 x3), (.int .u64 x4), (.bool x5)])] w Q = N128 x x1 xN xC x2 xN1 xC1 x3 x4 x5 w Q := by intros; kernel_rfl
theorem call128 {x : Int} {x1 : Option Addr} {xN xC : Nat} {x2 : Option Addr} {xN1 xC1 : Nat} {x3 : Int} {x4 : Int} {x5 : Bool} {w : World} {Q : Value → World → Prop} (hN : N128 x x1 xN xC x2 xN1 xC1 x3 x4 x5 w Q) : CALL PG 128 [(.agg #[(.int .u64 x), (.slice x1 xN xC), (.slice x2 xN1 xC1), (.int .i64 x3), (.int .u64 x4), (.bool x5)])] w Q := calls_vc tabOk Try.func128 (by rw [eq128]; exact hN)

end Go.Br
