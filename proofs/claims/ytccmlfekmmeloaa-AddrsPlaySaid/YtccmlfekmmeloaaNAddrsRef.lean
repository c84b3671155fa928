/- What the code of some functions says, as the core reads it; each reading is checked by the kernel. -/
import Derived.Test.YtccmlfekmmeloaaBrSeat
set_option linter.unusedVariables false
set_option maxRecDepth 100000
namespace Go.Br
open Go Go.Proofs

/-- brougham/broughamref20.New -/
def N55 (most : Int) (paths : Int) (w : World) (Q : Value → World → Prop) : Prop :=
 RUNA PG (Instr.alloc 113 true (.tuple #[])) w fun a4 w1 =>
 CALL PG 102 [(.int .i64 most), (.int .i64 (0 : Int)), (.int .i64 (8 : Int))] w1 fun v w2 =>
 ∃ x6 : Int, v = (.int .i64 x6) ∧
 (CALL PG 102 [(.int .i64 paths), (.int .i64 (1 : Int)), (.int .i64 (4 : Int))] w2 fun v1 w3 =>
 ∃ x8 : Int, v1 = (.int .i64 x8) ∧
 (CALL PG 103 [(.int .i64 (64 : Int)), (.int .i64 (1 : Int))] w3 fun v2 w4 =>
 ∃ x9 : Int, ∃ x9v1 : Int, ∃ x9v2 : Int, v2 = (.agg #[(.int .i64 x9), (.int .i64 x9v1), (.int .i64 x9v2)]) ∧
 (RD PG (Instr.build 113 #[(0, (.int .i64 x6)), (1, (.int .i64 x8)), (3, (.agg #[(.int .i64 x9), (.int .i64 x9v1), (.int .i64 x9v2)]))]) w4 fun v3 =>
 ∃ x10 : Int, ∃ x10v1 : Int, ∃ (x10v2 : Option Addr) (x10N x10C : Nat), ∃ x10v3 : Int, ∃ x10v4 : Int, ∃ x10v5 : Int, v3 = (.agg #[(.int .i64 x10), (.int .i64 x10v1), (.slice x10v2 x10N x10C), (.int .i64 x10v3), (.int .i64 x10v4), (.int .i64 x10v5)]) ∧
 (RUNU PG (storeVar 113 a4 (.agg #[(.int .i64 x10), (.int .i64 x10v1), (.slice x10v2 x10N x10C), (.int .i64 x10v3), (.int .i64 x10v4), (.int .i64 x10v5)])) w4 fun w5 =>
 RD PG (loadVar 113 a4) w5 fun v5 =>
 ∃ r : Int, ∃ r1 : Int, ∃ (r2 : Option Addr) (rN rC : Nat), ∃ r3 : Int, ∃ r4 : Int, ∃ r5 : Int, v5 = (.agg #[(.int .i64 r), (.int .i64 r1), (.slice r2 rN rC), (.int .i64 r3), (.int .i64 r4), (.int .i64 r5)]) ∧
 (Q (.agg #[(.int .i64 r), (.int .i64 r1), (.slice r2 rN rC), (.int .i64 r3), (.int .i64 r4), (.int .i64 r5)]) w5)))))
theorem eq55 : ∀ (most : Int) (paths : Int) (w : World) (Q : Value → World → Prop), vcF PG TB Try.f55 .nil [(.int .i64 most), (.int .i64 paths)] w Q = N55 most paths w Q := by intros; kernel_rfl
theorem call55 {most : Int} {paths : Int} {w : World} {Q : Value → World → Prop} (hN : N55 most paths w Q) : CALL PG 55 [(.int .i64 most), (.int .i64 paths)] w Q := calls_vc tabOk Try.func55 (by rw [eq55]; exact hN)

/-- brougham/broughamref20.Gone -/
def N56 (t : Int) (t1 : Int) (t2 : Option Addr) (tN tC : Nat) (t3 : Int) (t4 : Int) (t5 : Int) (id : Int) (w : World) (Q : Value → World → Prop) : Prop :=
 RUNA PG (Instr.box 113 (.agg #[(.int .i64 t), (.int .i64 t1), (.slice t2 tN tC), (.int .i64 t3), (.int .i64 t4), (.int .i64 t5)])) w fun a2 w1 =>
 RUNA PG (Instr.alloc 113 true (.tuple #[])) w1 fun a4 w2 =>
 RD PG (loadVar 113 a2) w2 fun v =>
 ∃ x7 : Int, ∃ x7v1 : Int, ∃ (x7v2 : Option Addr) (x7N x7C : Nat), ∃ x7v3 : Int, ∃ x7v4 : Int, ∃ x7v5 : Int, v = (.agg #[(.int .i64 x7), (.int .i64 x7v1), (.slice x7v2 x7N x7C), (.int .i64 x7v3), (.int .i64 x7v4), (.int .i64 x7v5)]) ∧
 (CALL PG 104 [(.agg #[(.int .i64 x7), (.int .i64 x7v1), (.slice x7v2 x7N x7C), (.int .i64 x7v3), (.int .i64 x7v4), (.int .i64 x7v5)]), (.int .i64 id)] w2 fun v1 w3 =>
 ∃ x9 : Int, v1 = (.int .i64 x9) ∧
 (LETI x9 fun i =>
 IFB (decide (i < (0 : Int)))
 (RD PG (loadVar 113 a2) w3 fun v2 =>
 ∃ x12 : Int, ∃ x12v1 : Int, ∃ (x12v2 : Option Addr) (x12N x12C : Nat), ∃ x12v3 : Int, ∃ x12v4 : Int, ∃ x12v5 : Int, v2 = (.agg #[(.int .i64 x12), (.int .i64 x12v1), (.slice x12v2 x12N x12C), (.int .i64 x12v3), (.int .i64 x12v4), (.int .i64 x12v5)]) ∧
 (RUNU PG (storeVar 113 a4 (.agg #[(.int .i64 x12), (.int .i64 x12v1), (.slice x12v2 x12N x12C), (.int .i64 x12v3), (.int .i64 x12v4), (.int .i64 x12v5)])) w3 fun w4 =>
 RD PG (loadVar 113 a4) w4 fun v4 =>
 ∃ r : Int, ∃ r1 : Int, ∃ (r2 : Option Addr) (rN rC : Nat), ∃ r3 : Int, ∃ r4 : Int, ∃ r5 : Int, v4 = (.agg #[(.int .i64 r), (.int .i64 r1), (.slice r2 rN rC), (.int .i64 r3), (.int .i64 r4), (.int .i64 r5)]) ∧
 (Q (.tuple #[(.agg #[(.int .i64 r), (.int .i64 r1), (.slice r2 rN rC), (.int .i64 r3), (.int .i64 r4), (.int .i64 r5)]), (.bool false)]) w4)))
 (∃ S : World → Prop, S (w3.drew) ∧
 (RDSL PG (loadVar 109 (Addr.add a2 2)) S fun x15 x15N x15C =>
 NEED (0 ≤ (0 : Int) ∧ (0 : Int) ≤ i ∧ i ≤ ((x15C : Nat) : Int))
 (RDSL PG (loadVar 109 (Addr.add a2 2)) S fun x20 x20N x20C =>
 NEED (0 ≤ (IntKind.i64.wrap (i + (1 : Int))) ∧ (IntKind.i64.wrap (i + (1 : Int))) ≤ ((x20N : Nat) : Int) ∧ ((x20N : Nat) : Int) ≤ ((x20C : Nat) : Int))
 (RUNL PG (Instr.buildSlice 109 0 #[]) (w3.drew) fun x13 x13N x13C w5 =>
 ∃ S1 : World → Prop, (∀ x, S1 x → S x) ∧ S1 w5 ∧
 (RUNL PG (Builtin.append_ #[109, 109] 109 #[(.slice x13 x13N x13C), (.slice (cutA x15 x15C 2 (0 : Int)) (Int.toNat i - Int.toNat (0 : Int)) (x15C - Int.toNat (0 : Int)))]) w5 fun x18 x18N x18C w6 =>
 ∃ S2 : World → Prop, (∀ x, S2 x → S1 x) ∧ S2 w6 ∧
 (RUNL PG (Builtin.append_ #[109, 109] 109 #[(.slice x18 x18N x18C), (.slice (cutA x20 x20C 2 (IntKind.i64.wrap (i + (1 : Int)))) (Int.toNat ((x20N : Nat) : Int) - Int.toNat (IntKind.i64.wrap (i + (1 : Int)))) (x20C - Int.toNat (IntKind.i64.wrap (i + (1 : Int)))))]) w6 fun x24 x24N x24C w7 =>
 RUNU PG (storeVar 109 (Addr.add a2 2) (.slice x24 x24N x24C)) w7 fun w8 =>
 RD PG (loadVar 113 a2) w8 fun v5 =>
 ∃ x26 : Int, ∃ x26v1 : Int, ∃ (x26v2 : Option Addr) (x26N x26C : Nat), ∃ x26v3 : Int, ∃ x26v4 : Int, ∃ x26v5 : Int, v5 = (.agg #[(.int .i64 x26), (.int .i64 x26v1), (.slice x26v2 x26N x26C), (.int .i64 x26v3), (.int .i64 x26v4), (.int .i64 x26v5)]) ∧
 (RUNU PG (storeVar 113 a4 (.agg #[(.int .i64 x26), (.int .i64 x26v1), (.slice x26v2 x26N x26C), (.int .i64 x26v3), (.int .i64 x26v4), (.int .i64 x26v5)])) w8 fun w9 =>
 RD PG (loadVar 113 a4) w9 fun v7 =>
 ∃ r6 : Int, ∃ r7 : Int, ∃ (r8 : Option Addr) (rN1 rC1 : Nat), ∃ r9 : Int, ∃ r10 : Int, ∃ r11 : Int, v7 = (.agg #[(.int .i64 r6), (.int .i64 r7), (.slice r8 rN1 rC1), (.int .i64 r9), (.int .i64 r10), (.int .i64 r11)]) ∧
 (Q (.tuple #[(.agg #[(.int .i64 r6), (.int .i64 r7), (.slice r8 rN1 rC1), (.int .i64 r9), (.int .i64 r10), (.int .i64 r11)]), (.bool true)]) w9))))))))))
theorem eq56 : ∀ (t : Int) (t1 : Int) (t2 : Option Addr) (tN tC : Nat) (t3 : Int) (t4 : Int) (t5 : Int) (id : Int) (w : World) (Q : Value → World → Prop), vcF PG TB Try.f56 .nil [(.agg #[(.int .i64 t), (.int .i64 t1), (.slice t2 tN tC), (.int .i64 t3), (.int .i64 t4), (.int .i64 t5)]), (.int .i64 id)] w Q = N56 t t1 t2 tN tC t3 t4 t5 id w Q := by intros; kernel_rfl
theorem call56 {t : Int} {t1 : Int} {t2 : Option Addr} {tN tC : Nat} {t3 : Int} {t4 : Int} {t5 : Int} {id : Int} {w : World} {Q : Value → World → Prop} (hN : N56 t t1 t2 tN tC t3 t4 t5 id w Q) : CALL PG 56 [(.agg #[(.int .i64 t), (.int .i64 t1), (.slice t2 tN tC), (.int .i64 t3), (.int .i64 t4), (.int .i64 t5)]), (.int .i64 id)] w Q := calls_vc tabOk Try.func56 (by rw [eq56]; exact hN)

/-- brougham/broughamref11.Tick -/
def N57 (b : Int) (b1 : Int) (b2 : Int) (n : Int) (w : World) (Q : Value → World → Prop) : Prop :=
 RUNA PG (Instr.box 111 (.agg #[(.int .i64 b), (.int .i64 b1), (.int .i64 b2)])) w fun a2 w1 =>
 RUNA PG (Instr.alloc 111 true (.tuple #[])) w1 fun a4 w2 =>
 ∃ S : World → Prop, S (w2.drew) ∧
 (RDSI PG (loadVar 3 (Addr.add a2 2)) .i64 S fun x6 =>
 RDSI PG (loadVar 3 (Addr.add a2 1)) .i64 S fun x10 =>
 CALL PG 105 [(.int .i64 n)] (w2.drew) fun v w3 =>
 ∃ x8 : Int, v = (.int .i64 x8) ∧
 (∃ S1 : World → Prop, (∀ x, S1 x → S x) ∧ S1 w3 ∧
 (RUNU PG (storeVar 3 (Addr.add a2 2) (.int .i64 (IntKind.i64.wrap (x6 + (IntKind.i64.wrap (x8 * x10)))))) w3 fun w4 =>
 RDI PG (loadVar 3 (Addr.add a2 2)) .i64 w4 fun x15 =>
 RDI PG (loadVar 3 (Addr.add a2 0)) .i64 w4 fun x17 =>
 IFB (decide (x15 > x17))
 (RDI PG (loadVar 3 (Addr.add a2 0)) .i64 w4 fun x20 =>
 RUNU PG (storeVar 3 (Addr.add a2 2) (.int .i64 x20)) w4 fun w5 =>
 RD PG (loadVar 111 a2) w5 fun v1 =>
 ∃ x22 : Int, ∃ x22v1 : Int, ∃ x22v2 : Int, v1 = (.agg #[(.int .i64 x22), (.int .i64 x22v1), (.int .i64 x22v2)]) ∧
 (RUNU PG (storeVar 111 a4 (.agg #[(.int .i64 x22), (.int .i64 x22v1), (.int .i64 x22v2)])) w5 fun w6 =>
 RD PG (loadVar 111 a4) w6 fun v3 =>
 ∃ r : Int, ∃ r1 : Int, ∃ r2 : Int, v3 = (.agg #[(.int .i64 r), (.int .i64 r1), (.int .i64 r2)]) ∧
 (Q (.agg #[(.int .i64 r), (.int .i64 r1), (.int .i64 r2)]) w6)))
 (RD PG (loadVar 111 a2) w4 fun v4 =>
 ∃ x22v3 : Int, ∃ x22v4 : Int, ∃ x22v5 : Int, v4 = (.agg #[(.int .i64 x22v3), (.int .i64 x22v4), (.int .i64 x22v5)]) ∧
 (RUNU PG (storeVar 111 a4 (.agg #[(.int .i64 x22v3), (.int .i64 x22v4), (.int .i64 x22v5)])) w4 fun w7 =>
 RD PG (loadVar 111 a4) w7 fun v6 =>
 ∃ r3 : Int, ∃ r4 : Int, ∃ r5 : Int, v6 = (.agg #[(.int .i64 r3), (.int .i64 r4), (.int .i64 r5)]) ∧
 (Q (.agg #[(.int .i64 r3), (.int .i64 r4), (.int .i64 r5)]) w7))))))
theorem eq57 : ∀ (b : Int) (b1 : Int) (b2 : Int) (n : Int) (w : World) (Q : Value → World → Prop), vcF PG TB Try.f57 .nil [(.agg #[(.int .i64 b), (.int .i64 b1), (.int .i64 b2)]), (.int .i64 n)] w Q = N57 b b1 b2 n w Q := by intros; kernel_rfl
theorem call57 {b : Int} {b1 : Int} {b2 : Int} {n : Int} {w : World} {Q : Value → World → Prop} (hN : N57 b b1 b2 n w Q) : CALL PG 57 [(.agg #[(.int .i64 b), (.int .i64 b1), (.int .i64 b2)]), (.int .i64 n)] w Q := calls_vc tabOk Try.func57 (by rw [eq57]; exact hN)

/-- brougham/broughamref20.Add -/
def N58 (t : Int) (t1 : Int) (t2 : Option Addr) (tN tC : Nat) (t3 : Int) (t4 : Int) (t5 : Int) (a : Int) (a1 : Int) (w : World) (Q : Value → World → Prop) : Prop :=
 RUNA PG (Instr.box 113 (.agg #[(.int .i64 t), (.int .i64 t1), (.slice t2 tN tC), (.int .i64 t3), (.int .i64 t4), (.int .i64 t5)])) w fun a2 w1 =>
 RUNA PG (Instr.box 119 (.agg #[(.int .i64 a), (.int .i64 a1)])) w1 fun a3 w2 =>
 RUNA PG (Instr.alloc 113 true (.tuple #[])) w2 fun a4 w3 =>
 RD PG (loadVar 113 a2) w3 fun v =>
 ∃ x7 : Int, ∃ x7v1 : Int, ∃ (x7v2 : Option Addr) (x7N x7C : Nat), ∃ x7v3 : Int, ∃ x7v4 : Int, ∃ x7v5 : Int, v = (.agg #[(.int .i64 x7), (.int .i64 x7v1), (.slice x7v2 x7N x7C), (.int .i64 x7v3), (.int .i64 x7v4), (.int .i64 x7v5)]) ∧
 (RDI PG (loadVar 3 (Addr.add a3 0)) .i64 w3 fun x9 =>
 CALL PG 104 [(.agg #[(.int .i64 x7), (.int .i64 x7v1), (.slice x7v2 x7N x7C), (.int .i64 x7v3), (.int .i64 x7v4), (.int .i64 x7v5)]), (.int .i64 x9)] w3 fun v1 w4 =>
 ∃ x10 : Int, v1 = (.int .i64 x10) ∧
 (LETI x10 fun i =>
 ∃ R : World → Prop,
 (RDI PG (loadVar 3 (Addr.add a3 0)) .i64 (w4.drew) fun x12 =>
 IFB (decide (x12 < (0 : Int)))
 (RD PG (loadVar 113 a2) (w4.drew) fun v2 =>
 ∃ x62 : Int, ∃ x62v1 : Int, ∃ (x62v2 : Option Addr) (x62N x62C : Nat), ∃ x62v3 : Int, ∃ x62v4 : Int, ∃ x62v5 : Int, v2 = (.agg #[(.int .i64 x62), (.int .i64 x62v1), (.slice x62v2 x62N x62C), (.int .i64 x62v3), (.int .i64 x62v4), (.int .i64 x62v5)]) ∧
 (RUNU PG (storeVar 113 a4 (.agg #[(.int .i64 x62), (.int .i64 x62v1), (.slice x62v2 x62N x62C), (.int .i64 x62v3), (.int .i64 x62v4), (.int .i64 x62v5)])) (w4.drew) fun w5 =>
 RD PG (loadVar 113 a4) w5 fun v4 =>
 ∃ r : Int, ∃ r1 : Int, ∃ (r2 : Option Addr) (rN rC : Nat), ∃ r3 : Int, ∃ r4 : Int, ∃ r5 : Int, v4 = (.agg #[(.int .i64 r), (.int .i64 r1), (.slice r2 rN rC), (.int .i64 r3), (.int .i64 r4), (.int .i64 r5)]) ∧
 (Q (.tuple #[(.agg #[(.int .i64 r), (.int .i64 r1), (.slice r2 rN rC), (.int .i64 r3), (.int .i64 r4), (.int .i64 r5)]), (.bool false)]) w5)))
 (RDI PG (loadVar 3 (Addr.add a3 0)) .i64 (w4.drew) fun x16 =>
 IFB (decide (x16 > (255 : Int)))
 (RD PG (loadVar 113 a2) (w4.drew) fun v5 =>
 ∃ x62v6 : Int, ∃ x62v7 : Int, ∃ (x62v8 : Option Addr) (x62N1 x62C1 : Nat), ∃ x62v9 : Int, ∃ x62v10 : Int, ∃ x62v11 : Int, v5 = (.agg #[(.int .i64 x62v6), (.int .i64 x62v7), (.slice x62v8 x62N1 x62C1), (.int .i64 x62v9), (.int .i64 x62v10), (.int .i64 x62v11)]) ∧
 (RUNU PG (storeVar 113 a4 (.agg #[(.int .i64 x62v6), (.int .i64 x62v7), (.slice x62v8 x62N1 x62C1), (.int .i64 x62v9), (.int .i64 x62v10), (.int .i64 x62v11)])) (w4.drew) fun w6 =>
 RD PG (loadVar 113 a4) w6 fun v7 =>
 ∃ r6 : Int, ∃ r7 : Int, ∃ (r8 : Option Addr) (rN1 rC1 : Nat), ∃ r9 : Int, ∃ r10 : Int, ∃ r11 : Int, v7 = (.agg #[(.int .i64 r6), (.int .i64 r7), (.slice r8 rN1 rC1), (.int .i64 r9), (.int .i64 r10), (.int .i64 r11)]) ∧
 (Q (.tuple #[(.agg #[(.int .i64 r6), (.int .i64 r7), (.slice r8 rN1 rC1), (.int .i64 r9), (.int .i64 r10), (.int .i64 r11)]), (.bool false)]) w6)))
 (RDI PG (loadVar 3 (Addr.add a3 1)) .i64 (w4.drew) fun x21 =>
 IFB (decide (x21 < (0 : Int)))
 (RD PG (loadVar 113 a2) (w4.drew) fun v8 =>
 ∃ x62v12 : Int, ∃ x62v13 : Int, ∃ (x62v14 : Option Addr) (x62N2 x62C2 : Nat), ∃ x62v15 : Int, ∃ x62v16 : Int, ∃ x62v17 : Int, v8 = (.agg #[(.int .i64 x62v12), (.int .i64 x62v13), (.slice x62v14 x62N2 x62C2), (.int .i64 x62v15), (.int .i64 x62v16), (.int .i64 x62v17)]) ∧
 (RUNU PG (storeVar 113 a4 (.agg #[(.int .i64 x62v12), (.int .i64 x62v13), (.slice x62v14 x62N2 x62C2), (.int .i64 x62v15), (.int .i64 x62v16), (.int .i64 x62v17)])) (w4.drew) fun w7 =>
 RD PG (loadVar 113 a4) w7 fun v10 =>
 ∃ r12 : Int, ∃ r13 : Int, ∃ (r14 : Option Addr) (rN2 rC2 : Nat), ∃ r15 : Int, ∃ r16 : Int, ∃ r17 : Int, v10 = (.agg #[(.int .i64 r12), (.int .i64 r13), (.slice r14 rN2 rC2), (.int .i64 r15), (.int .i64 r16), (.int .i64 r17)]) ∧
 (Q (.tuple #[(.agg #[(.int .i64 r12), (.int .i64 r13), (.slice r14 rN2 rC2), (.int .i64 r15), (.int .i64 r16), (.int .i64 r17)]), (.bool false)]) w7)))
 (RDI PG (loadVar 3 (Addr.add a3 1)) .i64 (w4.drew) fun x26 =>
 RDI PG (loadVar 3 (Addr.add a2 1)) .i64 (w4.drew) fun x28 =>
 IFB (decide (x26 ≥ x28))
 (RD PG (loadVar 113 a2) (w4.drew) fun v11 =>
 ∃ x62v18 : Int, ∃ x62v19 : Int, ∃ (x62v20 : Option Addr) (x62N3 x62C3 : Nat), ∃ x62v21 : Int, ∃ x62v22 : Int, ∃ x62v23 : Int, v11 = (.agg #[(.int .i64 x62v18), (.int .i64 x62v19), (.slice x62v20 x62N3 x62C3), (.int .i64 x62v21), (.int .i64 x62v22), (.int .i64 x62v23)]) ∧
 (RUNU PG (storeVar 113 a4 (.agg #[(.int .i64 x62v18), (.int .i64 x62v19), (.slice x62v20 x62N3 x62C3), (.int .i64 x62v21), (.int .i64 x62v22), (.int .i64 x62v23)])) (w4.drew) fun w8 =>
 RD PG (loadVar 113 a4) w8 fun v13 =>
 ∃ r18 : Int, ∃ r19 : Int, ∃ (r20 : Option Addr) (rN3 rC3 : Nat), ∃ r21 : Int, ∃ r22 : Int, ∃ r23 : Int, v13 = (.agg #[(.int .i64 r18), (.int .i64 r19), (.slice r20 rN3 rC3), (.int .i64 r21), (.int .i64 r22), (.int .i64 r23)]) ∧
 (Q (.tuple #[(.agg #[(.int .i64 r18), (.int .i64 r19), (.slice r20 rN3 rC3), (.int .i64 r21), (.int .i64 r22), (.int .i64 r23)]), (.bool false)]) w8)))
 (IFB (decide (i ≥ (0 : Int)))
 (RDL PG (loadVar 109 (Addr.add a2 2)) (w4.drew) fun x36 x36N x36C =>
 IDX x36 x36N i fun a38 =>
 RD PG (loadVar 119 (Addr.add a38 (Int.toNat i * 2))) (w4.drew) fun v14 =>
 ∃ x39 : Int, ∃ x39v1 : Int, v14 = (.agg #[(.int .i64 x39), (.int .i64 x39v1)]) ∧
 (RD PG (loadVar 119 a3) (w4.drew) fun v15 =>
 ∃ x40 : Int, ∃ x40v1 : Int, v15 = (.agg #[(.int .i64 x40), (.int .i64 x40v1)]) ∧
 (RDB PG (do eqGuard .eql 119 (.tmp 39) (.tmp 40) (.agg #[(.int .i64 x39), (.int .i64 x39v1)]) (.agg #[(.int .i64 x40), (.int .i64 x40v1)]); binOp .eql 119 (.agg #[(.int .i64 x39), (.int .i64 x39v1)]) (.agg #[(.int .i64 x40), (.int .i64 x40v1)])) (w4.drew) fun x41 =>
 IFB x41
 (RD PG (loadVar 113 a2) (w4.drew) fun v16 =>
 ∃ x62v24 : Int, ∃ x62v25 : Int, ∃ (x62v26 : Option Addr) (x62N4 x62C4 : Nat), ∃ x62v27 : Int, ∃ x62v28 : Int, ∃ x62v29 : Int, v16 = (.agg #[(.int .i64 x62v24), (.int .i64 x62v25), (.slice x62v26 x62N4 x62C4), (.int .i64 x62v27), (.int .i64 x62v28), (.int .i64 x62v29)]) ∧
 (RUNU PG (storeVar 113 a4 (.agg #[(.int .i64 x62v24), (.int .i64 x62v25), (.slice x62v26 x62N4 x62C4), (.int .i64 x62v27), (.int .i64 x62v28), (.int .i64 x62v29)])) (w4.drew) fun w9 =>
 RD PG (loadVar 113 a4) w9 fun v18 =>
 ∃ r24 : Int, ∃ r25 : Int, ∃ (r26 : Option Addr) (rN4 rC4 : Nat), ∃ r27 : Int, ∃ r28 : Int, ∃ r29 : Int, v18 = (.agg #[(.int .i64 r24), (.int .i64 r25), (.slice r26 rN4 rC4), (.int .i64 r27), (.int .i64 r28), (.int .i64 r29)]) ∧
 (Q (.tuple #[(.agg #[(.int .i64 r24), (.int .i64 r25), (.slice r26 rN4 rC4), (.int .i64 r27), (.int .i64 r28), (.int .i64 r29)]), (.bool false)]) w9)))
 (IFB (decide (i < (0 : Int)))
 (RDL PG (loadVar 109 (Addr.add a2 2)) (w4.drew) fun x49 x49N x49C =>
 RDI PG (loadVar 3 (Addr.add a2 0)) .i64 (w4.drew) fun x52 =>
 IFB ((x49N : Int) == x52)
 (RD PG (loadVar 113 a2) (w4.drew) fun v19 =>
 ∃ x62v30 : Int, ∃ x62v31 : Int, ∃ (x62v32 : Option Addr) (x62N5 x62C5 : Nat), ∃ x62v33 : Int, ∃ x62v34 : Int, ∃ x62v35 : Int, v19 = (.agg #[(.int .i64 x62v30), (.int .i64 x62v31), (.slice x62v32 x62N5 x62C5), (.int .i64 x62v33), (.int .i64 x62v34), (.int .i64 x62v35)]) ∧
 (RUNU PG (storeVar 113 a4 (.agg #[(.int .i64 x62v30), (.int .i64 x62v31), (.slice x62v32 x62N5 x62C5), (.int .i64 x62v33), (.int .i64 x62v34), (.int .i64 x62v35)])) (w4.drew) fun w10 =>
 RD PG (loadVar 113 a4) w10 fun v21 =>
 ∃ r30 : Int, ∃ r31 : Int, ∃ (r32 : Option Addr) (rN5 rC5 : Nat), ∃ r33 : Int, ∃ r34 : Int, ∃ r35 : Int, v21 = (.agg #[(.int .i64 r30), (.int .i64 r31), (.slice r32 rN5 rC5), (.int .i64 r33), (.int .i64 r34), (.int .i64 r35)]) ∧
 (Q (.tuple #[(.agg #[(.int .i64 r30), (.int .i64 r31), (.slice r32 rN5 rC5), (.int .i64 r33), (.int .i64 r34), (.int .i64 r35)]), (.bool false)]) w10)))
 (RDI PG (loadVar 3 (Addr.add (Addr.add a2 3) 2)) .i64 (w4.drew) fun x59 =>
 IFB (decide (x59 < (16 : Int)))
 (RD PG (loadVar 113 a2) (w4.drew) fun v22 =>
 ∃ x62v36 : Int, ∃ x62v37 : Int, ∃ (x62v38 : Option Addr) (x62N6 x62C6 : Nat), ∃ x62v39 : Int, ∃ x62v40 : Int, ∃ x62v41 : Int, v22 = (.agg #[(.int .i64 x62v36), (.int .i64 x62v37), (.slice x62v38 x62N6 x62C6), (.int .i64 x62v39), (.int .i64 x62v40), (.int .i64 x62v41)]) ∧
 (RUNU PG (storeVar 113 a4 (.agg #[(.int .i64 x62v36), (.int .i64 x62v37), (.slice x62v38 x62N6 x62C6), (.int .i64 x62v39), (.int .i64 x62v40), (.int .i64 x62v41)])) (w4.drew) fun w11 =>
 RD PG (loadVar 113 a4) w11 fun v24 =>
 ∃ r36 : Int, ∃ r37 : Int, ∃ (r38 : Option Addr) (rN6 rC6 : Nat), ∃ r39 : Int, ∃ r40 : Int, ∃ r41 : Int, v24 = (.agg #[(.int .i64 r36), (.int .i64 r37), (.slice r38 rN6 rC6), (.int .i64 r39), (.int .i64 r40), (.int .i64 r41)]) ∧
 (Q (.tuple #[(.agg #[(.int .i64 r36), (.int .i64 r37), (.slice r38 rN6 rC6), (.int .i64 r39), (.int .i64 r40), (.int .i64 r41)]), (.bool false)]) w11)))
 (R (w4.drew))))
 (RDI PG (loadVar 3 (Addr.add (Addr.add a2 3) 2)) .i64 (w4.drew) fun x59v1 =>
 IFB (decide (x59v1 < (16 : Int)))
 (RD PG (loadVar 113 a2) (w4.drew) fun v25 =>
 ∃ x62v42 : Int, ∃ x62v43 : Int, ∃ (x62v44 : Option Addr) (x62N7 x62C7 : Nat), ∃ x62v45 : Int, ∃ x62v46 : Int, ∃ x62v47 : Int, v25 = (.agg #[(.int .i64 x62v42), (.int .i64 x62v43), (.slice x62v44 x62N7 x62C7), (.int .i64 x62v45), (.int .i64 x62v46), (.int .i64 x62v47)]) ∧
 (RUNU PG (storeVar 113 a4 (.agg #[(.int .i64 x62v42), (.int .i64 x62v43), (.slice x62v44 x62N7 x62C7), (.int .i64 x62v45), (.int .i64 x62v46), (.int .i64 x62v47)])) (w4.drew) fun w12 =>
 RD PG (loadVar 113 a4) w12 fun v27 =>
 ∃ r42 : Int, ∃ r43 : Int, ∃ (r44 : Option Addr) (rN7 rC7 : Nat), ∃ r45 : Int, ∃ r46 : Int, ∃ r47 : Int, v27 = (.agg #[(.int .i64 r42), (.int .i64 r43), (.slice r44 rN7 rC7), (.int .i64 r45), (.int .i64 r46), (.int .i64 r47)]) ∧
 (Q (.tuple #[(.agg #[(.int .i64 r42), (.int .i64 r43), (.slice r44 rN7 rC7), (.int .i64 r45), (.int .i64 r46), (.int .i64 r47)]), (.bool false)]) w12)))
 (R (w4.drew)))))))
 (IFB (decide (i < (0 : Int)))
 (RDL PG (loadVar 109 (Addr.add a2 2)) (w4.drew) fun x49v1 x49N1 x49C1 =>
 RDI PG (loadVar 3 (Addr.add a2 0)) .i64 (w4.drew) fun x52v1 =>
 IFB ((x49N1 : Int) == x52v1)
 (RD PG (loadVar 113 a2) (w4.drew) fun v28 =>
 ∃ x62v48 : Int, ∃ x62v49 : Int, ∃ (x62v50 : Option Addr) (x62N8 x62C8 : Nat), ∃ x62v51 : Int, ∃ x62v52 : Int, ∃ x62v53 : Int, v28 = (.agg #[(.int .i64 x62v48), (.int .i64 x62v49), (.slice x62v50 x62N8 x62C8), (.int .i64 x62v51), (.int .i64 x62v52), (.int .i64 x62v53)]) ∧
 (RUNU PG (storeVar 113 a4 (.agg #[(.int .i64 x62v48), (.int .i64 x62v49), (.slice x62v50 x62N8 x62C8), (.int .i64 x62v51), (.int .i64 x62v52), (.int .i64 x62v53)])) (w4.drew) fun w13 =>
 RD PG (loadVar 113 a4) w13 fun v30 =>
 ∃ r48 : Int, ∃ r49 : Int, ∃ (r50 : Option Addr) (rN8 rC8 : Nat), ∃ r51 : Int, ∃ r52 : Int, ∃ r53 : Int, v30 = (.agg #[(.int .i64 r48), (.int .i64 r49), (.slice r50 rN8 rC8), (.int .i64 r51), (.int .i64 r52), (.int .i64 r53)]) ∧
 (Q (.tuple #[(.agg #[(.int .i64 r48), (.int .i64 r49), (.slice r50 rN8 rC8), (.int .i64 r51), (.int .i64 r52), (.int .i64 r53)]), (.bool false)]) w13)))
 (RDI PG (loadVar 3 (Addr.add (Addr.add a2 3) 2)) .i64 (w4.drew) fun x59v2 =>
 IFB (decide (x59v2 < (16 : Int)))
 (RD PG (loadVar 113 a2) (w4.drew) fun v31 =>
 ∃ x62v54 : Int, ∃ x62v55 : Int, ∃ (x62v56 : Option Addr) (x62N9 x62C9 : Nat), ∃ x62v57 : Int, ∃ x62v58 : Int, ∃ x62v59 : Int, v31 = (.agg #[(.int .i64 x62v54), (.int .i64 x62v55), (.slice x62v56 x62N9 x62C9), (.int .i64 x62v57), (.int .i64 x62v58), (.int .i64 x62v59)]) ∧
 (RUNU PG (storeVar 113 a4 (.agg #[(.int .i64 x62v54), (.int .i64 x62v55), (.slice x62v56 x62N9 x62C9), (.int .i64 x62v57), (.int .i64 x62v58), (.int .i64 x62v59)])) (w4.drew) fun w14 =>
 RD PG (loadVar 113 a4) w14 fun v33 =>
 ∃ r54 : Int, ∃ r55 : Int, ∃ (r56 : Option Addr) (rN9 rC9 : Nat), ∃ r57 : Int, ∃ r58 : Int, ∃ r59 : Int, v33 = (.agg #[(.int .i64 r54), (.int .i64 r55), (.slice r56 rN9 rC9), (.int .i64 r57), (.int .i64 r58), (.int .i64 r59)]) ∧
 (Q (.tuple #[(.agg #[(.int .i64 r54), (.int .i64 r55), (.slice r56 rN9 rC9), (.int .i64 r57), (.int .i64 r58), (.int .i64 r59)]), (.bool false)]) w14)))
 (R (w4.drew))))
 (RDI PG (loadVar 3 (Addr.add (Addr.add a2 3) 2)) .i64 (w4.drew) fun x59v3 =>
 IFB (decide (x59v3 < (16 : Int)))
 (RD PG (loadVar 113 a2) (w4.drew) fun v34 =>
 ∃ x62v60 : Int, ∃ x62v61 : Int, ∃ (x62v62 : Option Addr) (x62N10 x62C10 : Nat), ∃ x62v63 : Int, ∃ x62v64 : Int, ∃ x62v65 : Int, v34 = (.agg #[(.int .i64 x62v60), (.int .i64 x62v61), (.slice x62v62 x62N10 x62C10), (.int .i64 x62v63), (.int .i64 x62v64), (.int .i64 x62v65)]) ∧
 (RUNU PG (storeVar 113 a4 (.agg #[(.int .i64 x62v60), (.int .i64 x62v61), (.slice x62v62 x62N10 x62C10), (.int .i64 x62v63), (.int .i64 x62v64), (.int .i64 x62v65)])) (w4.drew) fun w15 =>
 RD PG (loadVar 113 a4) w15 fun v36 =>
 ∃ r60 : Int, ∃ r61 : Int, ∃ (r62 : Option Addr) (rN10 rC10 : Nat), ∃ r63 : Int, ∃ r64 : Int, ∃ r65 : Int, v36 = (.agg #[(.int .i64 r60), (.int .i64 r61), (.slice r62 rN10 rC10), (.int .i64 r63), (.int .i64 r64), (.int .i64 r65)]) ∧
 (Q (.tuple #[(.agg #[(.int .i64 r60), (.int .i64 r61), (.slice r62 rN10 rC10), (.int .i64 r63), (.int .i64 r64), (.int .i64 r65)]), (.bool false)]) w15)))
 (R (w4.drew))))))))) ∧
 (∀  (w16 : World), R w16 → (RDI PG (loadVar 3 (Addr.add (Addr.add a2 3) 2)) .i64 w16 fun x65 =>
 RUNU PG (storeVar 3 (Addr.add (Addr.add a2 3) 2) (.int .i64 (IntKind.i64.wrap (x65 - (16 : Int))))) w16 fun w17 =>
 RUNL PG (Instr.buildSlice 109 0 #[]) w17 fun x69 x69N x69C w18 =>
 RDL PG (loadVar 109 (Addr.add a2 2)) w18 fun x71 x71N x71C =>
 RUNL PG (Builtin.append_ #[109, 109] 109 #[(.slice x69 x69N x69C), (.slice x71 x71N x71C)]) w18 fun x72 x72N x72C w19 =>
 RUNU PG (storeVar 109 (Addr.add a2 2) (.slice x72 x72N x72C)) w19 fun w20 =>
 IFB (decide (i ≥ (0 : Int)))
 (RDL PG (loadVar 109 (Addr.add a2 2)) w20 fun x77 x77N x77C =>
 RD PG (loadVar 119 a3) w20 fun v37 =>
 ∃ x79 : Int, ∃ x79v1 : Int, v37 = (.agg #[(.int .i64 x79), (.int .i64 x79v1)]) ∧
 (IDX x77 x77N i fun a80 =>
 RUNU PG (storeVar 119 (Addr.add a80 (Int.toNat i * 2)) (.agg #[(.int .i64 x79), (.int .i64 x79v1)])) w20 fun w21 =>
 RD PG (loadVar 113 a2) w21 fun v38 =>
 ∃ x87 : Int, ∃ x87v1 : Int, ∃ (x87v2 : Option Addr) (x87N x87C : Nat), ∃ x87v3 : Int, ∃ x87v4 : Int, ∃ x87v5 : Int, v38 = (.agg #[(.int .i64 x87), (.int .i64 x87v1), (.slice x87v2 x87N x87C), (.int .i64 x87v3), (.int .i64 x87v4), (.int .i64 x87v5)]) ∧
 (RUNU PG (storeVar 113 a4 (.agg #[(.int .i64 x87), (.int .i64 x87v1), (.slice x87v2 x87N x87C), (.int .i64 x87v3), (.int .i64 x87v4), (.int .i64 x87v5)])) w21 fun w22 =>
 RD PG (loadVar 113 a4) w22 fun v40 =>
 ∃ r66 : Int, ∃ r67 : Int, ∃ (r68 : Option Addr) (rN11 rC11 : Nat), ∃ r69 : Int, ∃ r70 : Int, ∃ r71 : Int, v40 = (.agg #[(.int .i64 r66), (.int .i64 r67), (.slice r68 rN11 rC11), (.int .i64 r69), (.int .i64 r70), (.int .i64 r71)]) ∧
 (Q (.tuple #[(.agg #[(.int .i64 r66), (.int .i64 r67), (.slice r68 rN11 rC11), (.int .i64 r69), (.int .i64 r70), (.int .i64 r71)]), (.bool true)]) w22))))
 (RDL PG (loadVar 109 (Addr.add a2 2)) w20 fun x82 x82N x82C =>
 RD PG (loadVar 119 a3) w20 fun v41 =>
 ∃ x83 : Int, ∃ x83v1 : Int, v41 = (.agg #[(.int .i64 x83), (.int .i64 x83v1)]) ∧
 (RUNL PG (Instr.buildSlice 109 1 #[(0, (.agg #[(.int .i64 x83), (.int .i64 x83v1)]))]) w20 fun x84 x84N x84C w23 =>
 RUNL PG (Builtin.append_ #[109, 109] 109 #[(.slice x82 x82N x82C), (.slice x84 x84N x84C)]) w23 fun x85 x85N x85C w24 =>
 RUNU PG (storeVar 109 (Addr.add a2 2) (.slice x85 x85N x85C)) w24 fun w25 =>
 RD PG (loadVar 113 a2) w25 fun v42 =>
 ∃ x87v6 : Int, ∃ x87v7 : Int, ∃ (x87v8 : Option Addr) (x87N1 x87C1 : Nat), ∃ x87v9 : Int, ∃ x87v10 : Int, ∃ x87v11 : Int, v42 = (.agg #[(.int .i64 x87v6), (.int .i64 x87v7), (.slice x87v8 x87N1 x87C1), (.int .i64 x87v9), (.int .i64 x87v10), (.int .i64 x87v11)]) ∧
 (RUNU PG (storeVar 113 a4 (.agg #[(.int .i64 x87v6), (.int .i64 x87v7), (.slice x87v8 x87N1 x87C1), (.int .i64 x87v9), (.int .i64 x87v10), (.int .i64 x87v11)])) w25 fun w26 =>
 RD PG (loadVar 113 a4) w26 fun v44 =>
 ∃ r72 : Int, ∃ r73 : Int, ∃ (r74 : Option Addr) (rN12 rC12 : Nat), ∃ r75 : Int, ∃ r76 : Int, ∃ r77 : Int, v44 = (.agg #[(.int .i64 r72), (.int .i64 r73), (.slice r74 rN12 rC12), (.int .i64 r75), (.int .i64 r76), (.int .i64 r77)]) ∧
 (Q (.tuple #[(.agg #[(.int .i64 r72), (.int .i64 r73), (.slice r74 rN12 rC12), (.int .i64 r75), (.int .i64 r76), (.int .i64 r77)]), (.bool true)]) w26))))))))
theorem eq58 : ∀ (t : Int) (t1 : Int) (t2 : Option Addr) (tN tC : Nat) (t3 : Int) (t4 : Int) (t5 : Int) (a : Int) (a1 : Int) (w : World) (Q : Value → World → Prop), vcF PG TB Try.f58 (.s .nil (.s .nil (.cut [] .nil .nil))) [(.agg #[(.int .i64 t), (.int .i64 t1), (.slice t2 tN tC), (.int .i64 t3), (.int .i64 t4), (.int .i64 t5)]), (.agg #[(.int .i64 a), (.int .i64 a1)])] w Q = N58 t t1 t2 tN tC t3 t4 t5 a a1 w Q := by intros; kernel_rfl
theorem call58 {t : Int} {t1 : Int} {t2 : Option Addr} {tN tC : Nat} {t3 : Int} {t4 : Int} {t5 : Int} {a : Int} {a1 : Int} {w : World} {Q : Value → World → Prop} (hN : N58 t t1 t2 tN tC t3 t4 t5 a a1 w Q) : CALL PG 58 [(.agg #[(.int .i64 t), (.int .i64 t1), (.slice t2 tN tC), (.int .i64 t3), (.int .i64 t4), (.int .i64 t5)]), (.agg #[(.int .i64 a), (.int .i64 a1)])] w Q := calls_vc tabOk Try.func58 (by rw [eq58]; exact hN)

/-- brougham/broughamlaw20.same -/
def N59 (l : Option Addr) (lN lC : Nat) (m : Option Addr) (mN mC : Nat) (w : World) (Q : Value → World → Prop) : Prop :=
 IFB ((lN : Int) != (mN : Int))
 (Q (.bool false) w)
 (∃ I : Nat → Int → World → Prop,
 (∃ m1, I m1 (0 : Int) w) ∧
 (∀ m2 (i : Int) (w1 : World), I m2 i w1 → (IFB (decide (i < (lN : Int)))
 (IDX l lN i fun a19 =>
 RDI PG (loadVar 3 (Addr.add (Addr.add a19 (Int.toNat i * 2)) 0)) .i64 (w1.drew) fun x21 =>
 IDX m mN i fun a24 =>
 RDI PG (loadVar 3 (Addr.add (Addr.add a24 (Int.toNat i * 2)) 0)) .i64 (w1.drew) fun x26 =>
 IFB (x21 != x26)
 (Q (.bool false) (w1.drew))
 (IDX l lN i fun a31 =>
 RDI PG (loadVar 3 (Addr.add (Addr.add a31 (Int.toNat i * 2)) 1)) .i64 (w1.drew) fun x33 =>
 IDX m mN i fun a36 =>
 RDI PG (loadVar 3 (Addr.add (Addr.add a36 (Int.toNat i * 2)) 1)) .i64 (w1.drew) fun x38 =>
 IFB (x33 != x38)
 (Q (.bool false) (w1.drew))
 (LETI (IntKind.i64.wrap (i + (1 : Int))) fun i1 =>
 ∃ m3, m3 < m2 ∧ I m3 i1 (w1.drew))))
 (Q (.bool true) w1))))
theorem eq59 : ∀ (l : Option Addr) (lN lC : Nat) (m : Option Addr) (mN mC : Nat) (w : World) (Q : Value → World → Prop), vcF PG TB Try.f59 (.s .nil (.s .nil (.s (.s .nil (.u (.loop [(5, 3)] .nil))) .nil))) [(.slice l lN lC), (.slice m mN mC)] w Q = N59 l lN lC m mN mC w Q := by intros; kernel_rfl
theorem call59 {l : Option Addr} {lN lC : Nat} {m : Option Addr} {mN mC : Nat} {w : World} {Q : Value → World → Prop} (hN : N59 l lN lC m mN mC w Q) : CALL PG 59 [(.slice l lN lC), (.slice m mN mC)] w Q := calls_vc tabOk Try.func59 (by rw [eq59]; exact hN)

/-- brougham/broughamref19.Row -/
def N61 (a : Option Addr) (aN aC : Nat) (b : Option Addr) (bN bC : Nat) (w : World) (Q : Value → World → Prop) : Prop :=
 IFB ((aN : Int) != (bN : Int))
 (Q (.bool false) w)
 (∃ I : Nat → Int → World → Prop,
 (∃ m, I m (0 : Int) w) ∧
 (∀ m1 (i : Int) (w1 : World), I m1 i w1 → (IFB (decide (i < (aN : Int)))
 (IDX a aN i fun a19 =>
 RDI PG (loadVar 3 (Addr.add a19 (Int.toNat i * 1))) .i64 (w1.drew) fun x20 =>
 IDX b bN i fun a23 =>
 RDI PG (loadVar 3 (Addr.add a23 (Int.toNat i * 1))) .i64 (w1.drew) fun x24 =>
 IFB (x20 != x24)
 (Q (.bool false) (w1.drew))
 (LETI (IntKind.i64.wrap (i + (1 : Int))) fun i1 =>
 ∃ m2, m2 < m1 ∧ I m2 i1 (w1.drew)))
 (Q (.bool true) w1))))
theorem eq61 : ∀ (a : Option Addr) (aN aC : Nat) (b : Option Addr) (bN bC : Nat) (w : World) (Q : Value → World → Prop), vcF PG TB Try.f61 (.s .nil (.s .nil (.s (.s .nil (.u (.loop [(5, 3)] .nil))) .nil))) [(.slice a aN aC), (.slice b bN bC)] w Q = N61 a aN aC b bN bC w Q := by intros; kernel_rfl
theorem call61 {a : Option Addr} {aN aC : Nat} {b : Option Addr} {bN bC : Nat} {w : World} {Q : Value → World → Prop} (hN : N61 a aN aC b bN bC w Q) : CALL PG 61 [(.slice a aN aC), (.slice b bN bC)] w Q := calls_vc tabOk Try.func61 (by rw [eq61]; exact hN)

/-- brougham/broughamref20.Paths -/
def N62 (t : Int) (t1 : Int) (t2 : Option Addr) (tN tC : Nat) (t3 : Int) (t4 : Int) (t5 : Int) (w : World) (Q : Value → World → Prop) : Prop :=
 RUNA PG (Instr.box 113 (.agg #[(.int .i64 t), (.int .i64 t1), (.slice t2 tN tC), (.int .i64 t3), (.int .i64 t4), (.int .i64 t5)])) w fun a1 w1 =>
 ∃ I : Nat → Option Addr → Nat → Nat → Int → World → Prop,
 (∃ m, I m none 0 0 (0 : Int) w1) ∧
 (∀ m1 (out : Option Addr) (outN outC : Nat) (p : Int) (w2 : World), I m1 out outN outC p w2 → (IFB (decide (p < (4 : Int)))
 (∃ I1 : Nat → Bool → Int → World → Prop,
 (∃ m2, I1 m2 false (0 : Int) w2) ∧
 (∀ m3 (any : Bool) (i : Int) (w3 : World), I1 m3 any i w3 → (RDL PG (loadVar 109 (Addr.add a1 2)) w3 fun x13 x13N x13C =>
 IFB (decide (i < (x13N : Int)))
 (IFB any
 (LETB true fun any1 =>
 LETI (IntKind.i64.wrap (i + (1 : Int))) fun i1 =>
 ∃ m4, m4 < m3 ∧ I1 m4 any1 i1 w3)
 (RDL PG (loadVar 109 (Addr.add a1 2)) w3 fun x21 x21N x21C =>
 IDX x21 x21N i fun a23 =>
 RDI PG (loadVar 3 (Addr.add (Addr.add a23 (Int.toNat i * 2)) 1)) .i64 w3 fun x25 =>
 LETB (x25 == p) fun any2 =>
 LETI (IntKind.i64.wrap (i + (1 : Int))) fun i2 =>
 ∃ m5, m5 < m3 ∧ I1 m5 any2 i2 w3))
 (IFB any
 (RUNL PG (Instr.buildSlice 89 1 #[(0, (.int .i64 p))]) w3 fun x32 x32N x32C w4 =>
 RUNL PG (Builtin.append_ #[89, 89] 89 #[(.slice out outN outC), (.slice x32 x32N x32C)]) w4 fun x33 x33N x33C w5 =>
 LETI (IntKind.i64.wrap (p + (1 : Int))) fun p1 =>
 ∃ m6, m6 < m1 ∧ I m6 x33 x33N x33C p1 w5)
 (LETI (IntKind.i64.wrap (p + (1 : Int))) fun p2 =>
 ∃ m7, m7 < m1 ∧ I m7 out outN outC p2 w3)))))
 (Q (.slice out outN outC) w2)))
theorem eq62 : ∀ (t : Int) (t1 : Int) (t2 : Option Addr) (tN tC : Nat) (t3 : Int) (t4 : Int) (t5 : Int) (w : World) (Q : Value → World → Prop), vcF PG TB Try.f62 (.s .nil (.s .nil (.s (.s .nil (.u (.loop [(3, 89), (4, 3)] (.s .nil (.s (.u (.s .nil (.s (.s .nil (.u (.loop [(5, 4), (6, 3)] .nil))) .nil))) .nil))))) .nil))) [(.agg #[(.int .i64 t), (.int .i64 t1), (.slice t2 tN tC), (.int .i64 t3), (.int .i64 t4), (.int .i64 t5)])] w Q = N62 t t1 t2 tN tC t3 t4 t5 w Q := by intros; kernel_rfl
theorem call62 {t : Int} {t1 : Int} {t2 : Option Addr} {tN tC : Nat} {t3 : Int} {t4 : Int} {t5 : Int} {w : World} {Q : Value → World → Prop} (hN : N62 t t1 t2 tN tC t3 t4 t5 w Q) : CALL PG 62 [(.agg #[(.int .i64 t), (.int .i64 t1), (.slice t2 tN tC), (.int .i64 t3), (.int .i64 t4), (.int .i64 t5)])] w Q := calls_vc tabOk Try.func62 (by rw [eq62]; exact hN)

/-- brougham/broughamref20.within -/
def N102 (n : Int) (lo : Int) (hi : Int) (w : World) (Q : Value → World → Prop) : Prop :=
 IFB (decide (n < lo))
 (LETI lo fun x6 =>
 Q (.int .i64 x6) w)
 (IFB (decide (n > hi))
 (LETI hi fun x6v1 =>
 Q (.int .i64 x6v1) w)
 (LETI n fun x6v2 =>
 Q (.int .i64 x6v2) w))
theorem eq102 : ∀ (n : Int) (lo : Int) (hi : Int) (w : World) (Q : Value → World → Prop), vcF PG TB Try.f102 .nil [(.int .i64 n), (.int .i64 lo), (.int .i64 hi)] w Q = N102 n lo hi w Q := by intros; kernel_rfl
theorem call102 {n : Int} {lo : Int} {hi : Int} {w : World} {Q : Value → World → Prop} (hN : N102 n lo hi w Q) : CALL PG 102 [(.int .i64 n), (.int .i64 lo), (.int .i64 hi)] w Q := calls_vc tabOk Try.func102 (by rw [eq102]; exact hN)

/-- brougham/broughamref11.New -/
def N103 (burst : Int) (rate : Int) (w : World) (Q : Value → World → Prop) : Prop :=
 RUNA PG (Instr.alloc 111 true (.tuple #[])) w fun a4 w1 =>
 CALL PG 105 [(.int .i64 burst)] w1 fun v w2 =>
 ∃ x6 : Int, v = (.int .i64 x6) ∧
 (CALL PG 105 [(.int .i64 rate)] w2 fun v1 w3 =>
 ∃ x8 : Int, v1 = (.int .i64 x8) ∧
 (CALL PG 105 [(.int .i64 burst)] w3 fun v2 w4 =>
 ∃ x10 : Int, v2 = (.int .i64 x10) ∧
 (RD PG (Instr.build 111 #[(0, (.int .i64 x6)), (1, (.int .i64 x8)), (2, (.int .i64 x10))]) w4 fun v3 =>
 ∃ x11 : Int, ∃ x11v1 : Int, ∃ x11v2 : Int, v3 = (.agg #[(.int .i64 x11), (.int .i64 x11v1), (.int .i64 x11v2)]) ∧
 (RUNU PG (storeVar 111 a4 (.agg #[(.int .i64 x11), (.int .i64 x11v1), (.int .i64 x11v2)])) w4 fun w5 =>
 RD PG (loadVar 111 a4) w5 fun v5 =>
 ∃ r : Int, ∃ r1 : Int, ∃ r2 : Int, v5 = (.agg #[(.int .i64 r), (.int .i64 r1), (.int .i64 r2)]) ∧
 (Q (.agg #[(.int .i64 r), (.int .i64 r1), (.int .i64 r2)]) w5)))))
theorem eq103 : ∀ (burst : Int) (rate : Int) (w : World) (Q : Value → World → Prop), vcF PG TB Try.f103 .nil [(.int .i64 burst), (.int .i64 rate)] w Q = N103 burst rate w Q := by intros; kernel_rfl
theorem call103 {burst : Int} {rate : Int} {w : World} {Q : Value → World → Prop} (hN : N103 burst rate w Q) : CALL PG 103 [(.int .i64 burst), (.int .i64 rate)] w Q := calls_vc tabOk Try.func103 (by rw [eq103]; exact hN)

/-- brougham/broughamref20.at -/
def N104 (t : Int) (t1 : Int) (t2 : Option Addr) (tN tC : Nat) (t3 : Int) (t4 : Int) (t5 : Int) (id : Int) (w : World) (Q : Value → World → Prop) : Prop :=
 RUNA PG (Instr.box 113 (.agg #[(.int .i64 t), (.int .i64 t1), (.slice t2 tN tC), (.int .i64 t3), (.int .i64 t4), (.int .i64 t5)])) w fun a2 w1 =>
 ∃ I : Nat → Int → World → Prop,
 (∃ m, I m (0 : Int) w1) ∧
 (∀ m1 (i : Int) (w2 : World), I m1 i w2 → (RDL PG (loadVar 109 (Addr.add a2 2)) w2 fun x8 x8N x8C =>
 IFB (decide (i < (x8N : Int)))
 (RDL PG (loadVar 109 (Addr.add a2 2)) w2 fun x14 x14N x14C =>
 IDX x14 x14N i fun a16 =>
 RDI PG (loadVar 3 (Addr.add (Addr.add a16 (Int.toNat i * 2)) 0)) .i64 w2 fun x18 =>
 IFB (x18 == id)
 (LETI i fun x4 =>
 Q (.int .i64 x4) w2)
 (LETI (IntKind.i64.wrap (i + (1 : Int))) fun i1 =>
 ∃ m2, m2 < m1 ∧ I m2 i1 w2))
 (Q (.int .i64 (-1 : Int)) w2)))
theorem eq104 : ∀ (t : Int) (t1 : Int) (t2 : Option Addr) (tN tC : Nat) (t3 : Int) (t4 : Int) (t5 : Int) (id : Int) (w : World) (Q : Value → World → Prop), vcF PG TB Try.f104 (.s .nil (.s (.s .nil (.u (.loop [(5, 3)] .nil))) .nil)) [(.agg #[(.int .i64 t), (.int .i64 t1), (.slice t2 tN tC), (.int .i64 t3), (.int .i64 t4), (.int .i64 t5)]), (.int .i64 id)] w Q = N104 t t1 t2 tN tC t3 t4 t5 id w Q := by intros; kernel_rfl
theorem call104 {t : Int} {t1 : Int} {t2 : Option Addr} {tN tC : Nat} {t3 : Int} {t4 : Int} {t5 : Int} {id : Int} {w : World} {Q : Value → World → Prop} (hN : N104 t t1 t2 tN tC t3 t4 t5 id w Q) : CALL PG 104 [(.agg #[(.int .i64 t), (.int .i64 t1), (.slice t2 tN tC), (.int .i64 t3), (.int .i64 t4), (.int .i64 t5)]), (.int .i64 id)] w Q := calls_vc tabOk Try.func104 (by rw [eq104]; exact hN)

/-- brougham/broughamref11.Within -/
def N105 (n : Int) (w : World) (Q : Value → World → Prop) : Prop :=
 IFB (decide (n < (0 : Int)))
 (Q (.int .i64 (0 : Int)) w)
 (IFB (decide (n > (4096 : Int)))
 (Q (.int .i64 (4096 : Int)) w)
 (LETI n fun x2 =>
 Q (.int .i64 x2) w))
theorem eq105 : ∀ (n : Int) (w : World) (Q : Value → World → Prop), vcF PG TB Try.f105 .nil [(.int .i64 n)] w Q = N105 n w Q := by intros; kernel_rfl
theorem call105 {n : Int} {w : World} {Q : Value → World → Prop} (hN : N105 n w Q) : CALL PG 105 [(.int .i64 n)] w Q := calls_vc tabOk Try.func105 (by rw [eq105]; exact hN)

end Go.Br
