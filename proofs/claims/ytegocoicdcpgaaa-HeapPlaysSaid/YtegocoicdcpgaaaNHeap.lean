/- What the code of some functions says, as the core reads it; each reading is checked by the kernel. -/
import Derived.Test.YtegocoicdcpgaaaBrSeat
set_option linter.unusedVariables false
set_option maxRecDepth 100000
namespace Go.Br
open Go Go.Proofs

/-- brougham/heap.New[int] -/
def N63 (most : Int) (w : World) (Q : Value → World → Prop) : Prop :=
 RD PG (Instr.build 163 #[(0, (.int .i64 (minN (maxN most (0 : Int)) (65536 : Int))))]) w fun v =>
 ∃ x6 : Int, ∃ x6v1 : Int, ∃ (x6v2 : Option Addr) (x6N x6C : Nat), v = (.agg #[(.int .i64 x6), (.int .i64 x6v1), (.slice x6v2 x6N x6C)]) ∧
 (RUN PG (Instr.box 163 (.agg #[(.int .i64 x6), (.int .i64 x6v1), (.slice x6v2 x6N x6C)])) w fun v1 w1 =>
 ∃ a7 : Addr, v1 = (.pointer (some a7)) ∧
 (Q (.pointer (some a7)) w1))
theorem eq63 : ∀ (most : Int) (w : World) (Q : Value → World → Prop), vcF PG TB Try.f63 .nil [(.int .i64 most)] w Q = N63 most w Q := by intros; kernel_rfl
theorem call63 {most : Int} {w : World} {Q : Value → World → Prop} (hN : N63 most w Q) : CALL PG 63 [(.int .i64 most)] w Q := calls_vc tabOk Try.func63 (by rw [eq63]; exact hN)

/-- (*brougham/heap.Heap[int]).Take -/
def N64 (h : Option Addr) (w : World) (Q : Value → World → Prop) : Prop :=
 RUN PG (Instr.alloc 109 true (.tuple #[])) w fun v w1 =>
 ∃ a2 : Addr, v = (.pointer (some a2)) ∧
 (CALL PG 70 [(.pointer h)] w1 fun v1 w2 =>
 ∃ x9 : Int, ∃ x9v1 : Int, ∃ x9v2 : Int, ∃ x9v3 : Bool, v1 = (.tuple #[(.agg #[(.int .i64 x9), (.int .i64 x9v1), (.int .i64 x9v2)]), (.bool x9v3)]) ∧
 (RUN PG (Instr.alloc 109 true (.tuple #[])) w2 fun v2 w3 =>
 ∃ a4 : Addr, v2 = (.pointer (some a4)) ∧
 (RUNU PG (storeVar 109 a4 (.agg #[(.int .i64 x9), (.int .i64 x9v1), (.int .i64 x9v2)])) w3 fun w4 =>
 LETB x9v3 fun okv =>
 IFB (!okv)
 (RD PG (loadVar 109 a4) w4 fun v3 =>
 ∃ x14 : Int, ∃ x14v1 : Int, ∃ x14v2 : Int, v3 = (.agg #[(.int .i64 x14), (.int .i64 x14v1), (.int .i64 x14v2)]) ∧
 (RUNU PG (storeVar 109 a2 (.agg #[(.int .i64 x14), (.int .i64 x14v1), (.int .i64 x14v2)])) w4 fun w5 =>
 RD PG (loadVar 109 a2) w5 fun v4 =>
 ∃ r : Int, ∃ r1 : Int, ∃ r2 : Int, v4 = (.agg #[(.int .i64 r), (.int .i64 r1), (.int .i64 r2)]) ∧
 (Q (.tuple #[(.agg #[(.int .i64 r), (.int .i64 r1), (.int .i64 r2)]), (.bool false)]) w5)))
 (NILC h fun a16 =>
 RD PG (loadVar 161 (Addr.add a16 2)) w4 fun v5 =>
 ∃ (x18 : Option Addr) (x18N x18C : Nat), v5 = (.slice x18 x18N x18C) ∧
 (LETI (IntKind.i64.wrap ((x18N : Int) - (1 : Int))) fun last =>
 NILC h fun a22 =>
 RD PG (loadVar 161 (Addr.add a22 2)) (w4.drew) fun v6 =>
 ∃ (x24 : Option Addr) (x24N x24C : Nat), v6 = (.slice x24 x24N x24C) ∧
 (NILC h fun a26 =>
 RD PG (loadVar 161 (Addr.add a26 2)) (w4.drew) fun v7 =>
 ∃ (x28 : Option Addr) (x28N x28C : Nat), v7 = (.slice x28 x28N x28C) ∧
 (IDX x28 x28N last fun a30 =>
 RD PG (loadVar 109 (Addr.add a30 (Int.toNat last * 3))) (w4.drew) fun v8 =>
 ∃ x31 : Int, ∃ x31v1 : Int, ∃ x31v2 : Int, v8 = (.agg #[(.int .i64 x31), (.int .i64 x31v1), (.int .i64 x31v2)]) ∧
 (IDX x24 x24N (0 : Int) fun a32 =>
 RUNU PG (storeVar 109 (Addr.add a32 (Int.toNat (0 : Int) * 3)) (.agg #[(.int .i64 x31), (.int .i64 x31v1), (.int .i64 x31v2)])) (w4.drew) fun w6 =>
 NILC h fun a35 =>
 RD PG (loadVar 161 (Addr.add a35 2)) w6 fun v9 =>
 ∃ (x37 : Option Addr) (x37N x37C : Nat), v9 = (.slice x37 x37N x37C) ∧
 (NEED (0 ≤ (0 : Int) ∧ (0 : Int) ≤ last ∧ last ≤ ((x37C : Nat) : Int))
 (NILC h fun a40 =>
 RUNU PG (storeVar 161 (Addr.add a40 2) (.slice (cutA x37 x37C 3 (0 : Int)) (Int.toNat last - Int.toNat (0 : Int)) (x37C - Int.toNat (0 : Int)))) w6 fun w7 =>
 CALL PG 110 [(.pointer h), (.int .i64 (0 : Int))] w7 fun v10 w8 =>
 v10 = (.tuple #[]) ∧
 (RD PG (loadVar 109 a4) w8 fun v11 =>
 ∃ x44 : Int, ∃ x44v1 : Int, ∃ x44v2 : Int, v11 = (.agg #[(.int .i64 x44), (.int .i64 x44v1), (.int .i64 x44v2)]) ∧
 (RUNU PG (storeVar 109 a2 (.agg #[(.int .i64 x44), (.int .i64 x44v1), (.int .i64 x44v2)])) w8 fun w9 =>
 RD PG (loadVar 109 a2) w9 fun v12 =>
 ∃ r3 : Int, ∃ r4 : Int, ∃ r5 : Int, v12 = (.agg #[(.int .i64 r3), (.int .i64 r4), (.int .i64 r5)]) ∧
 (Q (.tuple #[(.agg #[(.int .i64 r3), (.int .i64 r4), (.int .i64 r5)]), (.bool true)]) w9)))))))))))))
theorem eq64 : ∀ (h : Option Addr) (w : World) (Q : Value → World → Prop), vcF PG TB Try.f64 .nil [(.pointer h)] w Q = N64 h w Q := by intros; kernel_rfl
theorem call64 {h : Option Addr} {w : World} {Q : Value → World → Prop} (hN : N64 h w Q) : CALL PG 64 [(.pointer h)] w Q := calls_vc tabOk Try.func64 (by rw [eq64]; exact hN)

/-- (*brougham/heap.Heap[int]).Put -/
def N69 (h : Option Addr) (atv : Int) (what : Int) (w : World) (Q : Value → World → Prop) : Prop :=
 NILC h fun a8 =>
 RD PG (loadVar 161 (Addr.add a8 2)) (w.drew) fun v =>
 ∃ (x10 : Option Addr) (x10N x10C : Nat), v = (.slice x10 x10N x10C) ∧
 (NILC h fun a13 =>
 RD PG (loadVar 3 (Addr.add a13 0)) (w.drew) fun v1 =>
 ∃ x15 : Int, v1 = (.int .i64 x15) ∧
 (IFB (decide ((x10N : Int) ≥ x15))
 (Q (.bool false) (w.drew))
 (NILC h fun a18 =>
 RD PG (loadVar 3 (Addr.add a18 1)) (w.drew) fun v2 =>
 ∃ x20 : Int, v2 = (.int .i64 x20) ∧
 (NILC h fun a22 =>
 RUNU PG (storeVar 3 (Addr.add a22 1) (.int .i64 (IntKind.i64.wrap (x20 + (1 : Int))))) (w.drew) fun w1 =>
 ∃ S : World → Prop, S (w1.drew) ∧
 (NILC h fun a26 =>
 RDS PG (loadVar 161 (Addr.add a26 2)) S fun v3 =>
 ∃ (x28 : Option Addr) (x28N x28C : Nat), v3 = (.slice x28 x28N x28C) ∧
 (NILC h fun a32 =>
 RDS PG (loadVar 3 (Addr.add a32 1)) S fun v4 =>
 ∃ x34 : Int, v4 = (.int .i64 x34) ∧
 (RDS PG (Instr.build 109 #[(0, (.int .i64 atv)), (1, (.int .i64 what)), (2, (.int .i64 x34))]) S fun v5 =>
 ∃ x35 : Int, ∃ x35v1 : Int, ∃ x35v2 : Int, v5 = (.agg #[(.int .i64 x35), (.int .i64 x35v1), (.int .i64 x35v2)]) ∧
 (RUN PG (Instr.buildSlice 161 1 #[(0, (.agg #[(.int .i64 x35), (.int .i64 x35v1), (.int .i64 x35v2)]))]) (w1.drew) fun v6 w2 =>
 ∃ (x36 : Option Addr) (x36N x36C : Nat), v6 = (.slice x36 x36N x36C) ∧
 (∃ S1 : World → Prop, (∀ x, S1 x → S x) ∧ S1 w2 ∧
 (RUN PG (Builtin.append_ #[161, 161] 161 #[(.slice x28 x28N x28C), (.slice x36 x36N x36C)]) w2 fun v7 w3 =>
 ∃ (x37 : Option Addr) (x37N x37C : Nat), v7 = (.slice x37 x37N x37C) ∧
 (NILC h fun a38 =>
 RUNU PG (storeVar 161 (Addr.add a38 2) (.slice x37 x37N x37C)) w3 fun w4 =>
 NILC h fun a42 =>
 RD PG (loadVar 161 (Addr.add a42 2)) w4 fun v8 =>
 ∃ (x44 : Option Addr) (x44N x44C : Nat), v8 = (.slice x44 x44N x44C) ∧
 (CALL PG 111 [(.pointer h), (.int .i64 (IntKind.i64.wrap ((x44N : Int) - (1 : Int))))] w4 fun v9 w5 =>
 v9 = (.tuple #[]) ∧
 (Q (.bool true) w5)))))))))))))
theorem eq69 : ∀ (h : Option Addr) (atv : Int) (what : Int) (w : World) (Q : Value → World → Prop), vcF PG TB Try.f69 .nil [(.pointer h), (.int .i64 atv), (.int .i64 what)] w Q = N69 h atv what w Q := by intros; kernel_rfl
theorem call69 {h : Option Addr} {atv : Int} {what : Int} {w : World} {Q : Value → World → Prop} (hN : N69 h atv what w Q) : CALL PG 69 [(.pointer h), (.int .i64 atv), (.int .i64 what)] w Q := calls_vc tabOk Try.func69 (by rw [eq69]; exact hN)

/-- (*brougham/heap.Heap[int]).First -/
def N70 (h : Option Addr) (w : World) (Q : Value → World → Prop) : Prop :=
 RUN PG (Instr.alloc 109 true (.tuple #[])) w fun v w1 =>
 ∃ a2 : Addr, v = (.pointer (some a2)) ∧
 (NILC h fun a5 =>
 RD PG (loadVar 161 (Addr.add a5 2)) w1 fun v1 =>
 ∃ (x7 : Option Addr) (x7N x7C : Nat), v1 = (.slice x7 x7N x7C) ∧
 (IFB ((x7N : Int) == (0 : Int))
 (RD PG (Instr.build 109 #[]) w1 fun v2 =>
 ∃ x10 : Int, ∃ x10v1 : Int, ∃ x10v2 : Int, v2 = (.agg #[(.int .i64 x10), (.int .i64 x10v1), (.int .i64 x10v2)]) ∧
 (RUNU PG (storeVar 109 a2 (.agg #[(.int .i64 x10), (.int .i64 x10v1), (.int .i64 x10v2)])) w1 fun w2 =>
 RD PG (loadVar 109 a2) w2 fun v3 =>
 ∃ r : Int, ∃ r1 : Int, ∃ r2 : Int, v3 = (.agg #[(.int .i64 r), (.int .i64 r1), (.int .i64 r2)]) ∧
 (Q (.tuple #[(.agg #[(.int .i64 r), (.int .i64 r1), (.int .i64 r2)]), (.bool false)]) w2)))
 (NILC h fun a12 =>
 RD PG (loadVar 161 (Addr.add a12 2)) w1 fun v4 =>
 ∃ (x14 : Option Addr) (x14N x14C : Nat), v4 = (.slice x14 x14N x14C) ∧
 (IDX x14 x14N (0 : Int) fun a15 =>
 RD PG (loadVar 109 (Addr.add a15 (Int.toNat (0 : Int) * 3))) w1 fun v5 =>
 ∃ x16 : Int, ∃ x16v1 : Int, ∃ x16v2 : Int, v5 = (.agg #[(.int .i64 x16), (.int .i64 x16v1), (.int .i64 x16v2)]) ∧
 (RUNU PG (storeVar 109 a2 (.agg #[(.int .i64 x16), (.int .i64 x16v1), (.int .i64 x16v2)])) w1 fun w3 =>
 RD PG (loadVar 109 a2) w3 fun v6 =>
 ∃ r3 : Int, ∃ r4 : Int, ∃ r5 : Int, v6 = (.agg #[(.int .i64 r3), (.int .i64 r4), (.int .i64 r5)]) ∧
 (Q (.tuple #[(.agg #[(.int .i64 r3), (.int .i64 r4), (.int .i64 r5)]), (.bool true)]) w3))))))
theorem eq70 : ∀ (h : Option Addr) (w : World) (Q : Value → World → Prop), vcF PG TB Try.f70 .nil [(.pointer h)] w Q = N70 h w Q := by intros; kernel_rfl
theorem call70 {h : Option Addr} {w : World} {Q : Value → World → Prop} (hN : N70 h w Q) : CALL PG 70 [(.pointer h)] w Q := calls_vc tabOk Try.func70 (by rw [eq70]; exact hN)

/-- (*brougham/heap.Heap[int]).Len -/
def N71 (h : Option Addr) (w : World) (Q : Value → World → Prop) : Prop :=
 NILC h fun a4 =>
 RD PG (loadVar 161 (Addr.add a4 2)) w fun v =>
 ∃ (x6 : Option Addr) (x6N x6C : Nat), v = (.slice x6 x6N x6C) ∧
 (LETI (x6N : Int) fun x2 =>
 Q (.int .i64 x2) w)
theorem eq71 : ∀ (h : Option Addr) (w : World) (Q : Value → World → Prop), vcF PG TB Try.f71 .nil [(.pointer h)] w Q = N71 h w Q := by intros; kernel_rfl
theorem call71 {h : Option Addr} {w : World} {Q : Value → World → Prop} (hN : N71 h w Q) : CALL PG 71 [(.pointer h)] w Q := calls_vc tabOk Try.func71 (by rw [eq71]; exact hN)

/-- (*brougham/heap.Heap[int]).down -/
def N110 (h : Option Addr) (i : Int) (w : World) (Q : Value → World → Prop) : Prop :=
 ∃ I : Nat → Int → World → Prop,
 (∃ m, I m i w) ∧
 (∀ m1 (i1 : Int) (w1 : World), I m1 i1 w1 → (LETI (IntKind.i64.wrap ((IntKind.i64.wrap ((2 : Int) * i1)) + (1 : Int))) fun k =>
 NILC h fun a10 =>
 RD PG (loadVar 161 (Addr.add a10 2)) w1 fun v =>
 ∃ (x12 : Option Addr) (x12N x12C : Nat), v = (.slice x12 x12N x12C) ∧
 (IFB (decide (k ≥ (x12N : Int)))
 (Q (.tuple #[]) w1)
 (∃ R : Int → World → Prop,
 (NILC h fun a18 =>
 RD PG (loadVar 161 (Addr.add a18 2)) w1 fun v1 =>
 ∃ (x20 : Option Addr) (x20N x20C : Nat), v1 = (.slice x20 x20N x20C) ∧
 (IFB (decide ((IntKind.i64.wrap (k + (1 : Int))) < (x20N : Int)))
 (CALL PG 122 [(.pointer h), (.int .i64 (IntKind.i64.wrap (k + (1 : Int)))), (.int .i64 k)] w1 fun v2 w2 =>
 ∃ x28 : Bool, v2 = (.bool x28) ∧
 (IFB x28
 (LETI (IntKind.i64.wrap (k + (1 : Int))) fun k1 =>
 R k1 w2)
 (R k w2)))
 (R k w1))) ∧
 (∀ (k2 : Int) (w3 : World), R k2 w3 → (CALL PG 122 [(.pointer h), (.int .i64 k2), (.int .i64 i1)] w3 fun v3 w4 =>
 ∃ x35 : Bool, v3 = (.bool x35) ∧
 (IFB (!x35)
 (Q (.tuple #[]) w4)
 (NILC h fun a38 =>
 RD PG (loadVar 161 (Addr.add a38 2)) (w4.drew) fun v4 =>
 ∃ (x40 : Option Addr) (x40N x40C : Nat), v4 = (.slice x40 x40N x40C) ∧
 (NILC h fun a43 =>
 RD PG (loadVar 161 (Addr.add a43 2)) (w4.drew) fun v5 =>
 ∃ (x45 : Option Addr) (x45N x45C : Nat), v5 = (.slice x45 x45N x45C) ∧
 (NILC h fun a48 =>
 RD PG (loadVar 161 (Addr.add a48 2)) (w4.drew) fun v6 =>
 ∃ (x50 : Option Addr) (x50N x50C : Nat), v6 = (.slice x50 x50N x50C) ∧
 (IDX x50 x50N k2 fun a52 =>
 RD PG (loadVar 109 (Addr.add a52 (Int.toNat k2 * 3))) (w4.drew) fun v7 =>
 ∃ x53 : Int, ∃ x53v1 : Int, ∃ x53v2 : Int, v7 = (.agg #[(.int .i64 x53), (.int .i64 x53v1), (.int .i64 x53v2)]) ∧
 (NILC h fun a55 =>
 RD PG (loadVar 161 (Addr.add a55 2)) (w4.drew) fun v8 =>
 ∃ (x57 : Option Addr) (x57N x57C : Nat), v8 = (.slice x57 x57N x57C) ∧
 (IDX x57 x57N i1 fun a59 =>
 RD PG (loadVar 109 (Addr.add a59 (Int.toNat i1 * 3))) (w4.drew) fun v9 =>
 ∃ x60 : Int, ∃ x60v1 : Int, ∃ x60v2 : Int, v9 = (.agg #[(.int .i64 x60), (.int .i64 x60v1), (.int .i64 x60v2)]) ∧
 (IDX x40 x40N i1 fun a61 =>
 RUNU PG (storeVar 109 (Addr.add a61 (Int.toNat i1 * 3)) (.agg #[(.int .i64 x53), (.int .i64 x53v1), (.int .i64 x53v2)])) (w4.drew) fun w5 =>
 IDX x45 x45N k2 fun a62 =>
 RUNU PG (storeVar 109 (Addr.add a62 (Int.toNat k2 * 3)) (.agg #[(.int .i64 x60), (.int .i64 x60v1), (.int .i64 x60v2)])) w5 fun w6 =>
 LETI k2 fun i2 =>
 ∃ m2, m2 < m1 ∧ I m2 i2 w6))))))))))))))
theorem eq110 : ∀ (h : Option Addr) (i : Int) (w : World) (Q : Value → World → Prop), vcF PG TB Try.f110 (.u (.loop [(1, 3)] (.u (.s .nil (.s .nil (.cut [(4, 3)] .nil .nil)))))) [(.pointer h), (.int .i64 i)] w Q = N110 h i w Q := by intros; kernel_rfl
theorem call110 {h : Option Addr} {i : Int} {w : World} {Q : Value → World → Prop} (hN : N110 h i w Q) : CALL PG 110 [(.pointer h), (.int .i64 i)] w Q := calls_vc tabOk Try.func110 (by rw [eq110]; exact hN)

/-- (*brougham/heap.Heap[int]).up -/
def N111 (h : Option Addr) (i : Int) (w : World) (Q : Value → World → Prop) : Prop :=
 ∃ I : Nat → Int → World → Prop,
 (∃ m, I m i w) ∧
 (∀ m1 (i1 : Int) (w1 : World), I m1 i1 w1 → (IFB (decide (i1 > (0 : Int)))
 (NEED ((2 : Int) ≠ 0)
 (LETI (IntKind.i64.wrap (Int.tdiv (IntKind.i64.wrap (i1 - (1 : Int))) (2 : Int))) fun above =>
 CALL PG 122 [(.pointer h), (.int .i64 i1), (.int .i64 above)] w1 fun v w2 =>
 ∃ x13 : Bool, v = (.bool x13) ∧
 (IFB (!x13)
 (Q (.tuple #[]) w2)
 (NILC h fun a16 =>
 RD PG (loadVar 161 (Addr.add a16 2)) (w2.drew) fun v1 =>
 ∃ (x18 : Option Addr) (x18N x18C : Nat), v1 = (.slice x18 x18N x18C) ∧
 (NILC h fun a21 =>
 RD PG (loadVar 161 (Addr.add a21 2)) (w2.drew) fun v2 =>
 ∃ (x23 : Option Addr) (x23N x23C : Nat), v2 = (.slice x23 x23N x23C) ∧
 (NILC h fun a26 =>
 RD PG (loadVar 161 (Addr.add a26 2)) (w2.drew) fun v3 =>
 ∃ (x28 : Option Addr) (x28N x28C : Nat), v3 = (.slice x28 x28N x28C) ∧
 (IDX x28 x28N above fun a30 =>
 RD PG (loadVar 109 (Addr.add a30 (Int.toNat above * 3))) (w2.drew) fun v4 =>
 ∃ x31 : Int, ∃ x31v1 : Int, ∃ x31v2 : Int, v4 = (.agg #[(.int .i64 x31), (.int .i64 x31v1), (.int .i64 x31v2)]) ∧
 (NILC h fun a33 =>
 RD PG (loadVar 161 (Addr.add a33 2)) (w2.drew) fun v5 =>
 ∃ (x35 : Option Addr) (x35N x35C : Nat), v5 = (.slice x35 x35N x35C) ∧
 (IDX x35 x35N i1 fun a37 =>
 RD PG (loadVar 109 (Addr.add a37 (Int.toNat i1 * 3))) (w2.drew) fun v6 =>
 ∃ x38 : Int, ∃ x38v1 : Int, ∃ x38v2 : Int, v6 = (.agg #[(.int .i64 x38), (.int .i64 x38v1), (.int .i64 x38v2)]) ∧
 (IDX x18 x18N i1 fun a39 =>
 RUNU PG (storeVar 109 (Addr.add a39 (Int.toNat i1 * 3)) (.agg #[(.int .i64 x31), (.int .i64 x31v1), (.int .i64 x31v2)])) (w2.drew) fun w3 =>
 IDX x23 x23N above fun a40 =>
 RUNU PG (storeVar 109 (Addr.add a40 (Int.toNat above * 3)) (.agg #[(.int .i64 x38), (.int .i64 x38v1), (.int .i64 x38v2)])) w3 fun w4 =>
 LETI above fun i2 =>
 ∃ m2, m2 < m1 ∧ I m2 i2 w4))))))))))
 (Q (.tuple #[]) w1)))
theorem eq111 : ∀ (h : Option Addr) (i : Int) (w : World) (Q : Value → World → Prop), vcF PG TB Try.f111 (.u (.loop [(1, 3)] .nil)) [(.pointer h), (.int .i64 i)] w Q = N111 h i w Q := by intros; kernel_rfl
theorem call111 {h : Option Addr} {i : Int} {w : World} {Q : Value → World → Prop} (hN : N111 h i w Q) : CALL PG 111 [(.pointer h), (.int .i64 i)] w Q := calls_vc tabOk Try.func111 (by rw [eq111]; exact hN)

/-- (*brougham/heap.Heap[int]).less -/
def N122 (h : Option Addr) (i : Int) (k : Int) (w : World) (Q : Value → World → Prop) : Prop :=
 ∃ S : World → Prop, S (w.drew) ∧
 (NILC h fun a8 =>
 RDS PG (loadVar 161 (Addr.add a8 2)) S fun v =>
 ∃ (x10 : Option Addr) (x10N x10C : Nat), v = (.slice x10 x10N x10C) ∧
 (IDX x10 x10N i fun a12 =>
 RDS PG (loadVar 3 (Addr.add (Addr.add a12 (Int.toNat i * 3)) 0)) S fun v1 =>
 ∃ x14 : Int, v1 = (.int .i64 x14) ∧
 (NILC h fun a16 =>
 RDS PG (loadVar 161 (Addr.add a16 2)) S fun v2 =>
 ∃ (x18 : Option Addr) (x18N x18C : Nat), v2 = (.slice x18 x18N x18C) ∧
 (IDX x18 x18N k fun a20 =>
 RDS PG (loadVar 3 (Addr.add (Addr.add a20 (Int.toNat k * 3)) 0)) S fun v3 =>
 ∃ x22 : Int, v3 = (.int .i64 x22) ∧
 (NILC h fun a25 =>
 RDS PG (loadVar 161 (Addr.add a25 2)) S fun v4 =>
 ∃ (x27 : Option Addr) (x27N x27C : Nat), v4 = (.slice x27 x27N x27C) ∧
 (IDX x27 x27N i fun a29 =>
 RDS PG (loadVar 3 (Addr.add (Addr.add a29 (Int.toNat i * 3)) 2)) S fun v5 =>
 ∃ x31 : Int, v5 = (.int .i64 x31) ∧
 (NILC h fun a33 =>
 RDS PG (loadVar 161 (Addr.add a33 2)) S fun v6 =>
 ∃ (x35 : Option Addr) (x35N x35C : Nat), v6 = (.slice x35 x35N x35C) ∧
 (IDX x35 x35N k fun a37 =>
 RDS PG (loadVar 3 (Addr.add (Addr.add a37 (Int.toNat k * 3)) 2)) S fun v7 =>
 ∃ x39 : Int, v7 = (.int .i64 x39) ∧
 (CALL PG 126 [(.int .i64 x14), (.int .i64 x22)] (w.drew) fun v8 w1 =>
 ∃ x23 : Int, v8 = (.int .i64 x23) ∧
 (∃ S1 : World → Prop, (∀ x, S1 x → S x) ∧ S1 w1 ∧
 (CALL PG 126 [(.int .i64 x31), (.int .i64 x39)] w1 fun v9 w2 =>
 ∃ x40 : Int, v9 = (.int .i64 x40) ∧
 (RUN PG (Instr.buildSlice 23 2 #[(0, (.int .i64 x23)), (1, (.int .i64 x40))]) w2 fun v10 w3 =>
 ∃ (x41 : Option Addr) (x41N x41C : Nat), v10 = (.slice x41 x41N x41C) ∧
 (CALL PG 125 [(.slice x41 x41N x41C)] w3 fun v11 w4 =>
 ∃ x42 : Int, v11 = (.int .i64 x42) ∧
 (LETB (decide (x42 < (0 : Int))) fun x6 =>
 Q (.bool x6) w4))))))))))))))
theorem eq122 : ∀ (h : Option Addr) (i : Int) (k : Int) (w : World) (Q : Value → World → Prop), vcF PG TB Try.f122 .nil [(.pointer h), (.int .i64 i), (.int .i64 k)] w Q = N122 h i k w Q := by intros; kernel_rfl
theorem call122 {h : Option Addr} {i : Int} {k : Int} {w : World} {Q : Value → World → Prop} (hN : N122 h i k w Q) : CALL PG 122 [(.pointer h), (.int .i64 i), (.int .i64 k)] w Q := calls_vc tabOk Try.func122 (by rw [eq122]; exact hN)

/-- cmp.Or[int] -/
def N125 (vals : Option Addr) (valsN valsC : Nat) (w : World) (Q : Value → World → Prop) : Prop :=
 ∃ I : Nat → Int → World → Prop,
 (∃ m, I m (0 : Int) w) ∧
 (∀ m1 (x8 : Int) (w1 : World), I m1 x8 w1 → (IFB (decide (x8 < (valsN : Int)))
 (IDX vals valsN x8 fun a10 =>
 RD PG (loadVar 3 (Addr.add a10 (Int.toNat x8 * 1))) w1 fun v =>
 ∃ x11 : Int, v = (.int .i64 x11) ∧
 (LETI x11 fun val =>
 IFB (val != (0 : Int))
 (LETI val fun x2 =>
 Q (.int .i64 x2) w1)
 (∃ m2, m2 < m1 ∧ I m2 (IntKind.i64.wrap (x8 + (1 : Int))) w1)))
 (LETI (0 : Int) fun x2v1 =>
 Q (.int .i64 x2v1) w1)))
theorem eq125 : ∀ (vals : Option Addr) (valsN valsC : Nat) (w : World) (Q : Value → World → Prop), vcF PG TB Try.f125 (.s .nil (.s .nil (.s (.s .nil (.u (.loop [(8, 3)] .nil))) .nil))) [(.slice vals valsN valsC)] w Q = N125 vals valsN valsC w Q := by intros; kernel_rfl
theorem call125 {vals : Option Addr} {valsN valsC : Nat} {w : World} {Q : Value → World → Prop} (hN : N125 vals valsN valsC w Q) : CALL PG 125 [(.slice vals valsN valsC)] w Q := calls_vc tabOk Try.func125 (by rw [eq125]; exact hN)

/-- cmp.Compare[int] -/
def N126 (x : Int) (y : Int) (w : World) (Q : Value → World → Prop) : Prop :=
 CALL PG 127 [(.int .i64 x)] w fun v w1 =>
 ∃ x8 : Bool, v = (.bool x8) ∧
 (LETB x8 fun xNaN =>
 CALL PG 127 [(.int .i64 y)] w1 fun v1 w2 =>
 ∃ x10 : Bool, v1 = (.bool x10) ∧
 (LETB x10 fun yNaN =>
 IFB xNaN
 (IFB yNaN
 (Q (.int .i64 (0 : Int)) w2)
 (Q (.int .i64 (-1 : Int)) w2))
 (IFB yNaN
 (Q (.int .i64 (1 : Int)) w2)
 (IFB (decide (x < y))
 (Q (.int .i64 (-1 : Int)) w2)
 (IFB (decide (x > y))
 (Q (.int .i64 (1 : Int)) w2)
 (Q (.int .i64 (0 : Int)) w2))))))
theorem eq126 : ∀ (x : Int) (y : Int) (w : World) (Q : Value → World → Prop), vcF PG TB Try.f126 .nil [(.int .i64 x), (.int .i64 y)] w Q = N126 x y w Q := by intros; kernel_rfl
theorem call126 {x : Int} {y : Int} {w : World} {Q : Value → World → Prop} (hN : N126 x y w Q) : CALL PG 126 [(.int .i64 x), (.int .i64 y)] w Q := calls_vc tabOk Try.func126 (by rw [eq126]; exact hN)

/-- cmp.isNaN[int] -/
def N127 (x : Int) (w : World) (Q : Value → World → Prop) : Prop :=
 LETB (x != x) fun x2 =>
 Q (.bool x2) w
theorem eq127 : ∀ (x : Int) (w : World) (Q : Value → World → Prop), vcF PG TB Try.f127 .nil [(.int .i64 x)] w Q = N127 x w Q := by intros; kernel_rfl
theorem call127 {x : Int} {w : World} {Q : Value → World → Prop} (hN : N127 x w Q) : CALL PG 127 [(.int .i64 x)] w Q := calls_vc tabOk Try.func127 (by rw [eq127]; exact hN)

end Go.Br
