/- What the code of some functions says, as the core reads it; each reading is checked by the kernel. -/
import Derived.Test.YtggajodoaooafaaBrSeat
set_option linter.unusedVariables false
set_option maxRecDepth 100000
namespace Go.Br
open Go Go.Proofs

/-- brougham/plan.Make -/
def N50 (wv : Int) (most : Int) (l : Option Addr) (lN lC : Nat) (w : World) (Q : Value → World → Prop) : Prop :=
 RUNA PG (Instr.alloc 110 true (.tuple #[])) w fun a6 w1 =>
 RD PG (Instr.build 110 #[]) w1 fun v =>
 ∃ (x14 : Option Addr) (x14N x14C : Nat), ∃ (x14v1 : Option Addr) (x14N1 x14C1 : Nat), ∃ (x14v2 : Option Addr) (x14N2 x14C2 : Nat), v = (.agg #[(.slice x14 x14N x14C), (.slice x14v1 x14N1 x14C1), (.slice x14v2 x14N2 x14C2)]) ∧
 (RUNA PG (Instr.alloc 110 true (.tuple #[])) w1 fun a7 w2 =>
 RUNU PG (storeVar 110 a7 (.agg #[(.slice x14 x14N x14C), (.slice x14v1 x14N1 x14C1), (.slice x14v2 x14N2 x14C2)])) w2 fun w3 =>
 ∃ I : Nat → Int → Int → Int → World → Prop,
 (∃ m, I m (0 : Int) (0 : Int) (0 : Int) w3) ∧
 (∀ m1 (used : Int) (good : Int) (x17 : Int) (w4 : World), I m1 used good x17 w4 → (IFB (decide (x17 < (lN : Int)))
 (IDX l lN x17 fun a19 =>
 RD PG (loadVar 108 (Addr.add a19 (Int.toNat x17 * 7))) w4 fun v1 =>
 ∃ x20 : Int, ∃ x20v1 : Bool, ∃ x20v2 : Bool, ∃ x20v3 : Bool, ∃ x20v4 : Bool, ∃ x20v5 : Int, ∃ x20v6 : Int, v1 = (.agg #[(.int .i64 x20), (.bool x20v1), (.bool x20v2), (.bool x20v3), (.bool x20v4), (.int .i64 x20v5), (.int .i64 x20v6)]) ∧
 (RUNA PG (Instr.alloc 108 true (.tuple #[])) w4 fun a11 w5 =>
 RUNU PG (storeVar 108 a11 (.agg #[(.int .i64 x20), (.bool x20v1), (.bool x20v2), (.bool x20v3), (.bool x20v4), (.int .i64 x20v5), (.int .i64 x20v6)])) w5 fun w6 =>
 ∃ R : Bool → World → Prop,
 (RDB PG (loadVar 4 (Addr.add a11 2)) w6 fun x23 =>
 IFB x23
 (RDB PG (loadVar 4 (Addr.add a11 1)) w6 fun x26 =>
 LETB (!x26) fun x21 =>
 R x21 w6)
 (LETB false fun x21v1 =>
 R x21v1 w6)) ∧
 (∀ (x21v2 : Bool) (w7 : World), R x21v2 w7 → (IFB x21v2
 (RDL PG (loadVar 95 (Addr.add a7 1)) w7 fun x30 x30N x30C =>
 RDI PG (loadVar 3 (Addr.add a11 0)) .i64 w7 fun x32 =>
 RUNL PG (Instr.buildSlice 95 1 #[(0, (.int .i64 x32))]) w7 fun x33 x33N x33C w8 =>
 RUNL PG (Builtin.append_ #[95, 95] 95 #[(.slice x30 x30N x30C), (.slice x33 x33N x33C)]) w8 fun x34 x34N x34C w9 =>
 RUNU PG (storeVar 95 (Addr.add a7 1) (.slice x34 x34N x34C)) w9 fun w10 =>
 ∃ m2, m2 < m1 ∧ I m2 used good (IntKind.i64.wrap (x17 + (1 : Int))) w10)
 (RDB PG (loadVar 4 (Addr.add a11 2)) w7 fun x38 =>
 LETB x38 fun x36 =>
 IFB x36
 (LETI (IntKind.i64.wrap (used + (1 : Int))) fun used1 =>
 RDB PG (loadVar 4 (Addr.add a11 4)) w7 fun x42 =>
 IFB (!x42)
 (LETI (IntKind.i64.wrap (good + (1 : Int))) fun good1 =>
 ∃ m3, m3 < m1 ∧ I m3 used1 good1 (IntKind.i64.wrap (x17 + (1 : Int))) w7)
 (∃ m4, m4 < m1 ∧ I m4 used1 good (IntKind.i64.wrap (x17 + (1 : Int))) w7))
 (∃ m5, m5 < m1 ∧ I m5 used good (IntKind.i64.wrap (x17 + (1 : Int))) w7))))))
 (LETI (maxN (IntKind.i64.wrap ((minN (maxN most (0 : Int)) (4 : Int)) - used)) (0 : Int)) fun room =>
 CALL PG 97 [(.slice l lN lC)] w4 fun v2 w11 =>
 ∃ (x54 : Option Addr) (x54N x54C : Nat), v2 = (.slice x54 x54N x54C) ∧
 (LETB (wv == (1 : Int)) fun x56 =>
 IFB x56
 (CALL PG 98 [(.slice x54 x54N x54C), (.int .i64 room)] w11 fun v3 w12 =>
 ∃ (x60 : Option Addr) (x60N x60C : Nat), v3 = (.slice x60 x60N x60C) ∧
 (RUNU PG (storeVar 95 (Addr.add a7 0) (.slice x60 x60N x60C)) w12 fun w13 =>
 RD PG (loadVar 110 a7) w13 fun v4 =>
 ∃ (x90 : Option Addr) (x90N x90C : Nat), ∃ (x90v1 : Option Addr) (x90N1 x90C1 : Nat), ∃ (x90v2 : Option Addr) (x90N2 x90C2 : Nat), v4 = (.agg #[(.slice x90 x90N x90C), (.slice x90v1 x90N1 x90C1), (.slice x90v2 x90N2 x90C2)]) ∧
 (RUNU PG (storeVar 110 a6 (.agg #[(.slice x90 x90N x90C), (.slice x90v1 x90N1 x90C1), (.slice x90v2 x90N2 x90C2)])) w13 fun w14 =>
 RD PG (loadVar 110 a6) w14 fun v6 =>
 ∃ (r : Option Addr) (rN rC : Nat), ∃ (r1 : Option Addr) (rN1 rC1 : Nat), ∃ (r2 : Option Addr) (rN2 rC2 : Nat), v6 = (.agg #[(.slice r rN rC), (.slice r1 rN1 rC1), (.slice r2 rN2 rC2)]) ∧
 (Q (.agg #[(.slice r rN rC), (.slice r1 rN1 rC1), (.slice r2 rN2 rC2)]) w14))))
 (LETB (wv == (2 : Int)) fun x62 =>
 IFB x62
 (CALL PG 98 [(.slice x54 x54N x54C), (.int .i64 (minN room (maxN (IntKind.i64.wrap ((2 : Int) - good)) (0 : Int))))] w11 fun v7 w15 =>
 ∃ (x70 : Option Addr) (x70N x70C : Nat), v7 = (.slice x70 x70N x70C) ∧
 (RUNU PG (storeVar 95 (Addr.add a7 0) (.slice x70 x70N x70C)) w15 fun w16 =>
 CALL PG 99 [(.slice l lN lC)] w16 fun v8 w17 =>
 ∃ (x73 : Option Addr) (x73N x73C : Nat), v8 = (.slice x73 x73N x73C) ∧
 (RUNU PG (storeVar 95 (Addr.add a7 2) (.slice x73 x73N x73C)) w17 fun w18 =>
 RD PG (loadVar 110 a7) w18 fun v9 =>
 ∃ (x90v3 : Option Addr) (x90N3 x90C3 : Nat), ∃ (x90v4 : Option Addr) (x90N4 x90C4 : Nat), ∃ (x90v5 : Option Addr) (x90N5 x90C5 : Nat), v9 = (.agg #[(.slice x90v3 x90N3 x90C3), (.slice x90v4 x90N4 x90C4), (.slice x90v5 x90N5 x90C5)]) ∧
 (RUNU PG (storeVar 110 a6 (.agg #[(.slice x90v3 x90N3 x90C3), (.slice x90v4 x90N4 x90C4), (.slice x90v5 x90N5 x90C5)])) w18 fun w19 =>
 RD PG (loadVar 110 a6) w19 fun v11 =>
 ∃ (r3 : Option Addr) (rN3 rC3 : Nat), ∃ (r4 : Option Addr) (rN4 rC4 : Nat), ∃ (r5 : Option Addr) (rN5 rC5 : Nat), v11 = (.agg #[(.slice r3 rN3 rC3), (.slice r4 rN4 rC4), (.slice r5 rN5 rC5)]) ∧
 (Q (.agg #[(.slice r3 rN3 rC3), (.slice r4 rN4 rC4), (.slice r5 rN5 rC5)]) w19)))))
 (LETB (wv == (3 : Int)) fun x75 =>
 IFB x75
 (IFB (good == (0 : Int))
 (CALL PG 98 [(.slice x54 x54N x54C), (.int .i64 (minN room (1 : Int)))] w11 fun v12 w20 =>
 ∃ (x82 : Option Addr) (x82N x82C : Nat), v12 = (.slice x82 x82N x82C) ∧
 (RUNU PG (storeVar 95 (Addr.add a7 0) (.slice x82 x82N x82C)) w20 fun w21 =>
 ∃ S : World → Prop, S (w21.drew) ∧
 (RDSL PG (loadVar 95 (Addr.add a7 1)) S fun x85 x85N x85C =>
 CALL PG 100 [(.slice l lN lC)] (w21.drew) fun v13 w22 =>
 ∃ (x87 : Option Addr) (x87N x87C : Nat), v13 = (.slice x87 x87N x87C) ∧
 (∃ S1 : World → Prop, (∀ x, S1 x → S x) ∧ S1 w22 ∧
 (RUNL PG (Builtin.append_ #[95, 95] 95 #[(.slice x85 x85N x85C), (.slice x87 x87N x87C)]) w22 fun x88 x88N x88C w23 =>
 RUNU PG (storeVar 95 (Addr.add a7 1) (.slice x88 x88N x88C)) w23 fun w24 =>
 RD PG (loadVar 110 a7) w24 fun v14 =>
 ∃ (x90v6 : Option Addr) (x90N6 x90C6 : Nat), ∃ (x90v7 : Option Addr) (x90N7 x90C7 : Nat), ∃ (x90v8 : Option Addr) (x90N8 x90C8 : Nat), v14 = (.agg #[(.slice x90v6 x90N6 x90C6), (.slice x90v7 x90N7 x90C7), (.slice x90v8 x90N8 x90C8)]) ∧
 (RUNU PG (storeVar 110 a6 (.agg #[(.slice x90v6 x90N6 x90C6), (.slice x90v7 x90N7 x90C7), (.slice x90v8 x90N8 x90C8)])) w24 fun w25 =>
 RD PG (loadVar 110 a6) w25 fun v16 =>
 ∃ (r6 : Option Addr) (rN6 rC6 : Nat), ∃ (r7 : Option Addr) (rN7 rC7 : Nat), ∃ (r8 : Option Addr) (rN8 rC8 : Nat), v16 = (.agg #[(.slice r6 rN6 rC6), (.slice r7 rN7 rC7), (.slice r8 rN8 rC8)]) ∧
 (Q (.agg #[(.slice r6 rN6 rC6), (.slice r7 rN7 rC7), (.slice r8 rN8 rC8)]) w25)))))))
 (∃ S2 : World → Prop, S2 (w11.drew) ∧
 (RDSL PG (loadVar 95 (Addr.add a7 1)) S2 fun x85v1 x85N1 x85C1 =>
 CALL PG 100 [(.slice l lN lC)] (w11.drew) fun v17 w26 =>
 ∃ (x87v1 : Option Addr) (x87N1 x87C1 : Nat), v17 = (.slice x87v1 x87N1 x87C1) ∧
 (∃ S3 : World → Prop, (∀ x, S3 x → S2 x) ∧ S3 w26 ∧
 (RUNL PG (Builtin.append_ #[95, 95] 95 #[(.slice x85v1 x85N1 x85C1), (.slice x87v1 x87N1 x87C1)]) w26 fun x88v1 x88N1 x88C1 w27 =>
 RUNU PG (storeVar 95 (Addr.add a7 1) (.slice x88v1 x88N1 x88C1)) w27 fun w28 =>
 RD PG (loadVar 110 a7) w28 fun v18 =>
 ∃ (x90v9 : Option Addr) (x90N9 x90C9 : Nat), ∃ (x90v10 : Option Addr) (x90N10 x90C10 : Nat), ∃ (x90v11 : Option Addr) (x90N11 x90C11 : Nat), v18 = (.agg #[(.slice x90v9 x90N9 x90C9), (.slice x90v10 x90N10 x90C10), (.slice x90v11 x90N11 x90C11)]) ∧
 (RUNU PG (storeVar 110 a6 (.agg #[(.slice x90v9 x90N9 x90C9), (.slice x90v10 x90N10 x90C10), (.slice x90v11 x90N11 x90C11)])) w28 fun w29 =>
 RD PG (loadVar 110 a6) w29 fun v20 =>
 ∃ (r9 : Option Addr) (rN9 rC9 : Nat), ∃ (r10 : Option Addr) (rN10 rC10 : Nat), ∃ (r11 : Option Addr) (rN11 rC11 : Nat), v20 = (.agg #[(.slice r9 rN9 rC9), (.slice r10 rN10 rC10), (.slice r11 rN11 rC11)]) ∧
 (Q (.agg #[(.slice r9 rN9 rC9), (.slice r10 rN10 rC10), (.slice r11 rN11 rC11)]) w29)))))))
 (RD PG (loadVar 110 a7) w11 fun v21 =>
 ∃ (x90v12 : Option Addr) (x90N12 x90C12 : Nat), ∃ (x90v13 : Option Addr) (x90N13 x90C13 : Nat), ∃ (x90v14 : Option Addr) (x90N14 x90C14 : Nat), v21 = (.agg #[(.slice x90v12 x90N12 x90C12), (.slice x90v13 x90N13 x90C13), (.slice x90v14 x90N14 x90C14)]) ∧
 (RUNU PG (storeVar 110 a6 (.agg #[(.slice x90v12 x90N12 x90C12), (.slice x90v13 x90N13 x90C13), (.slice x90v14 x90N14 x90C14)])) w11 fun w30 =>
 RD PG (loadVar 110 a6) w30 fun v23 =>
 ∃ (r12 : Option Addr) (rN12 rC12 : Nat), ∃ (r13 : Option Addr) (rN13 rC13 : Nat), ∃ (r14 : Option Addr) (rN14 rC14 : Nat), v23 = (.agg #[(.slice r12 rN12 rC12), (.slice r13 rN13 rC13), (.slice r14 rN14 rC14)]) ∧
 (Q (.agg #[(.slice r12 rN12 rC12), (.slice r13 rN13 rC13), (.slice r14 rN14 rC14)]) w30))))))))))
theorem eq50 : ∀ (wv : Int) (most : Int) (l : Option Addr) (lN lC : Nat) (w : World) (Q : Value → World → Prop), vcF PG TB Try.f50 (.s .nil (.s .nil (.s .nil (.s (.s .nil (.u (.loop [(8, 3), (9, 3), (17, 3)] (.s .nil (.s .nil (.s (.u (.s .nil (.u (.cut [(21, 4)] .nil .nil)))) .nil)))))) .nil)))) [(.int .i64 wv), (.int .i64 most), (.slice l lN lC)] w Q = N50 wv most l lN lC w Q := by intros; kernel_rfl
theorem call50 {wv : Int} {most : Int} {l : Option Addr} {lN lC : Nat} {w : World} {Q : Value → World → Prop} (hN : N50 wv most l lN lC w Q) : CALL PG 50 [(.int .i64 wv), (.int .i64 most), (.slice l lN lC)] w Q := calls_vc tabOk Try.func50 (by rw [eq50]; exact hN)

end Go.Br
