/- HostInfo, AuditText -/
import Derived.Test.YtedgfhklpfmjaaaGreatBrSeat
import Derived.Test.YtedgfhklpfmjaaaGreatJConnAsk2
import Derived.Test.YtedgfhklpfmjaaaGreatJSortInt
import Derived.Test.YtedgfhklpfmjaaaGreatNumText
import Derived.Test.YtedgfhklpfmjaaaGreatStrJoin
/- What the code of some functions says, as the core reads it; each reading is checked by the kernel. -/
set_option linter.unusedVariables false
set_option maxRecDepth 100000
namespace Go.Br
open Go Go.Proofs

/-- (*brougham/host.Host).Handles -/
def N18 (h : Option Addr) (w : World) (Q : Value → World → Prop) : Prop :=
 NILC h fun a6 =>
 RD PG (loadVar 62 (Addr.add a6 29)) w fun v =>
 ∃ x8 : Value, v = x8 ∧
 (RUNA PG (Instr.range 62 x8) w fun a9 w1 =>
 ∃ I : Nat → Option Addr → Nat → Nat → World → Prop,
 (∃ m, I m none 0 0 w1) ∧
 (∀ m1 (out : Option Addr) (outN outC : Nat) (w2 : World), I m1 out outN outC w2 → (RUN PG (Instr.next (.pointer (some a9)) false 0) w2 fun v1 w3 =>
 ∃ more : Bool, ∃ xs : List Value, v1 = (.tuple ⟨(.bool more) :: xs⟩) ∧
 (IFB more
 (RD PG (Instr.entry (.pointer (some a9))) w3 fun v2 =>
 ∃ k x : Value, v2 = (.tuple #[k, x]) ∧
 (∃ key : Int, k = (.int .i64 key) ∧
 (LETI key fun n =>
 RUNL PG (Instr.buildSlice 69 1 #[(0, (.int .i64 n))]) w3 fun x16 x16N x16C w4 =>
 RUNL PG (Builtin.append_ #[69, 69] 69 #[(.slice out outN outC), (.slice x16 x16N x16C)]) w4 fun x17 x17N x17C w5 =>
 ∃ m2, m2 < m1 ∧ I m2 x17 x17N x17C w5)))
 (CALL PG 32 [(.slice out outN outC)] w3 fun v3 w6 =>
 v3 = (.tuple #[]) ∧
 (Q (.slice out outN outC) w6))))))
theorem eq18 : ∀ (h : Option Addr) (w : World) (Q : Value → World → Prop), vcF PG TB Tryz.f18 (.s .nil (.s .nil (.s (.s .nil (.u (.loop [(3, 69)] .nil))) .nil))) [(.pointer h)] w Q = N18 h w Q := by intros; kernel_rfl
theorem call18 {h : Option Addr} {w : World} {Q : Value → World → Prop} (hN : N18 h w Q) : CALL PG 18 [(.pointer h)] w Q := calls_vc tabOk Tryz.func18 (by rw [eq18]; exact hN)

/-- (*brougham/host.Host).Info -/
def N19 (h : Option Addr) (n : Int) (w : World) (Q : Value → World → Prop) : Prop :=
 RUNA PG (Instr.alloc 32 true (.tuple #[])) w fun a4 w1 =>
 NILC h fun a8 =>
 RD PG (loadVar 62 (Addr.add a8 29)) w1 fun v =>
 ∃ x10 : Value, v = x10 ∧
 (RDP PG (Instr.lookup 62 x10 (.int .i64 n) false) w1 fun x12 =>
 IFB (x12.isNone)
 (RD PG (Instr.build 32 #[]) w1 fun v1 =>
 ∃ x15 : Int, ∃ x15v1 : Int, ∃ x15v2 : Int, ∃ x15v3 : Int, ∃ x15v4 : Int, ∃ x15v5 : Int, ∃ x15v6 : Int, ∃ x15v7 : Int, ∃ x15v8 : Int, ∃ x15v9 : Int, ∃ x15v10 : Int, ∃ x15v11 : Int, ∃ x15v12 : Bool, ∃ x15v13 : Bool, ∃ x15v14 : Int, ∃ x15v15 : Int, ∃ x15v16 : Int, ∃ x15v17 : Int, v1 = (.agg #[(.int .i64 x15), (.int .i64 x15v1), (.int .i64 x15v2), (.int .u64 x15v3), (.int .u64 x15v4), (.int .i64 x15v5), (.int .u16 x15v6), (.int .u16 x15v7), (.int .u64 x15v8), (.int .u64 x15v9), (.int .u64 x15v10), (.int .u64 x15v11), (.bool x15v12), (.bool x15v13), (.int .i64 x15v14), (.int .i64 x15v15), (.int .i64 x15v16), (.int .i64 x15v17)]) ∧
 (RUNU PG (storeVar 32 a4 (.agg #[(.int .i64 x15), (.int .i64 x15v1), (.int .i64 x15v2), (.int .u64 x15v3), (.int .u64 x15v4), (.int .i64 x15v5), (.int .u16 x15v6), (.int .u16 x15v7), (.int .u64 x15v8), (.int .u64 x15v9), (.int .u64 x15v10), (.int .u64 x15v11), (.bool x15v12), (.bool x15v13), (.int .i64 x15v14), (.int .i64 x15v15), (.int .i64 x15v16), (.int .i64 x15v17)])) w1 fun w2 =>
 RD PG (loadVar 32 a4) w2 fun v3 =>
 ∃ r : Int, ∃ r1 : Int, ∃ r2 : Int, ∃ r3 : Int, ∃ r4 : Int, ∃ r5 : Int, ∃ r6 : Int, ∃ r7 : Int, ∃ r8 : Int, ∃ r9 : Int, ∃ r10 : Int, ∃ r11 : Int, ∃ r12 : Bool, ∃ r13 : Bool, ∃ r14 : Int, ∃ r15 : Int, ∃ r16 : Int, ∃ r17 : Int, v3 = (.agg #[(.int .i64 r), (.int .i64 r1), (.int .i64 r2), (.int .u64 r3), (.int .u64 r4), (.int .i64 r5), (.int .u16 r6), (.int .u16 r7), (.int .u64 r8), (.int .u64 r9), (.int .u64 r10), (.int .u64 r11), (.bool r12), (.bool r13), (.int .i64 r14), (.int .i64 r15), (.int .i64 r16), (.int .i64 r17)]) ∧
 (Q (.tuple #[(.agg #[(.int .i64 r), (.int .i64 r1), (.int .i64 r2), (.int .u64 r3), (.int .u64 r4), (.int .i64 r5), (.int .u16 r6), (.int .u16 r7), (.int .u64 r8), (.int .u64 r9), (.int .u64 r10), (.int .u64 r11), (.bool r12), (.bool r13), (.int .i64 r14), (.int .i64 r15), (.int .i64 r16), (.int .i64 r17)]), (.bool false)]) w2)))
 (CALL PG 33 [(.pointer x12)] w1 fun v4 w3 =>
 ∃ x17 : Int, ∃ x17v1 : Int, ∃ x17v2 : Int, ∃ x17v3 : Int, ∃ x17v4 : Int, ∃ x17v5 : Int, ∃ x17v6 : Int, ∃ x17v7 : Int, ∃ x17v8 : Int, ∃ x17v9 : Int, ∃ x17v10 : Int, ∃ x17v11 : Int, ∃ x17v12 : Bool, ∃ x17v13 : Bool, ∃ x17v14 : Int, ∃ x17v15 : Int, ∃ x17v16 : Int, ∃ x17v17 : Int, v4 = (.agg #[(.int .i64 x17), (.int .i64 x17v1), (.int .i64 x17v2), (.int .u64 x17v3), (.int .u64 x17v4), (.int .i64 x17v5), (.int .u16 x17v6), (.int .u16 x17v7), (.int .u64 x17v8), (.int .u64 x17v9), (.int .u64 x17v10), (.int .u64 x17v11), (.bool x17v12), (.bool x17v13), (.int .i64 x17v14), (.int .i64 x17v15), (.int .i64 x17v16), (.int .i64 x17v17)]) ∧
 (RUNU PG (storeVar 32 a4 (.agg #[(.int .i64 x17), (.int .i64 x17v1), (.int .i64 x17v2), (.int .u64 x17v3), (.int .u64 x17v4), (.int .i64 x17v5), (.int .u16 x17v6), (.int .u16 x17v7), (.int .u64 x17v8), (.int .u64 x17v9), (.int .u64 x17v10), (.int .u64 x17v11), (.bool x17v12), (.bool x17v13), (.int .i64 x17v14), (.int .i64 x17v15), (.int .i64 x17v16), (.int .i64 x17v17)])) w3 fun w4 =>
 RD PG (loadVar 32 a4) w4 fun v6 =>
 ∃ r18 : Int, ∃ r19 : Int, ∃ r20 : Int, ∃ r21 : Int, ∃ r22 : Int, ∃ r23 : Int, ∃ r24 : Int, ∃ r25 : Int, ∃ r26 : Int, ∃ r27 : Int, ∃ r28 : Int, ∃ r29 : Int, ∃ r30 : Bool, ∃ r31 : Bool, ∃ r32 : Int, ∃ r33 : Int, ∃ r34 : Int, ∃ r35 : Int, v6 = (.agg #[(.int .i64 r18), (.int .i64 r19), (.int .i64 r20), (.int .u64 r21), (.int .u64 r22), (.int .i64 r23), (.int .u16 r24), (.int .u16 r25), (.int .u64 r26), (.int .u64 r27), (.int .u64 r28), (.int .u64 r29), (.bool r30), (.bool r31), (.int .i64 r32), (.int .i64 r33), (.int .i64 r34), (.int .i64 r35)]) ∧
 (Q (.tuple #[(.agg #[(.int .i64 r18), (.int .i64 r19), (.int .i64 r20), (.int .u64 r21), (.int .u64 r22), (.int .i64 r23), (.int .u16 r24), (.int .u16 r25), (.int .u64 r26), (.int .u64 r27), (.int .u64 r28), (.int .u64 r29), (.bool r30), (.bool r31), (.int .i64 r32), (.int .i64 r33), (.int .i64 r34), (.int .i64 r35)]), (.bool true)]) w4))))
theorem eq19 : ∀ (h : Option Addr) (n : Int) (w : World) (Q : Value → World → Prop), vcF PG TB Tryz.f19 .nil [(.pointer h), (.int .i64 n)] w Q = N19 h n w Q := by intros; kernel_rfl
theorem call19 {h : Option Addr} {n : Int} {w : World} {Q : Value → World → Prop} (hN : N19 h n w Q) : CALL PG 19 [(.pointer h), (.int .i64 n)] w Q := calls_vc tabOk Tryz.func19 (by rw [eq19]; exact hN)

/-- (*brougham/host.Host).Seen -/
def N23 (h : Option Addr) (w : World) (Q : Value → World → Prop) : Prop :=
 RUNA PG (Instr.alloc 64 true (.tuple #[])) w fun a2 w1 =>
 NILC h fun a4 =>
 RD PG (loadVar 64 (Addr.add a4 0)) w1 fun v =>
 ∃ x6 : Int, ∃ x6v1 : Int, ∃ x6v2 : Int, ∃ x6v3 : Int, ∃ x6v4 : Int, ∃ x6v5 : Int, ∃ x6v6 : Int, ∃ x6v7 : Int, ∃ x6v8 : Int, ∃ x6v9 : Int, v = (.agg #[(.int .i64 x6), (.int .i64 x6v1), (.int .i64 x6v2), (.int .i64 x6v3), (.int .i64 x6v4), (.int .i64 x6v5), (.int .i64 x6v6), (.int .i64 x6v7), (.int .i64 x6v8), (.int .i64 x6v9)]) ∧
 (RUNU PG (storeVar 64 a2 (.agg #[(.int .i64 x6), (.int .i64 x6v1), (.int .i64 x6v2), (.int .i64 x6v3), (.int .i64 x6v4), (.int .i64 x6v5), (.int .i64 x6v6), (.int .i64 x6v7), (.int .i64 x6v8), (.int .i64 x6v9)])) w1 fun w2 =>
 RD PG (loadVar 64 a2) w2 fun v2 =>
 ∃ r : Int, ∃ r1 : Int, ∃ r2 : Int, ∃ r3 : Int, ∃ r4 : Int, ∃ r5 : Int, ∃ r6 : Int, ∃ r7 : Int, ∃ r8 : Int, ∃ r9 : Int, v2 = (.agg #[(.int .i64 r), (.int .i64 r1), (.int .i64 r2), (.int .i64 r3), (.int .i64 r4), (.int .i64 r5), (.int .i64 r6), (.int .i64 r7), (.int .i64 r8), (.int .i64 r9)]) ∧
 (Q (.agg #[(.int .i64 r), (.int .i64 r1), (.int .i64 r2), (.int .i64 r3), (.int .i64 r4), (.int .i64 r5), (.int .i64 r6), (.int .i64 r7), (.int .i64 r8), (.int .i64 r9)]) w2))
theorem eq23 : ∀ (h : Option Addr) (w : World) (Q : Value → World → Prop), vcF PG TB Tryz.f23 .nil [(.pointer h)] w Q = N23 h w Q := by intros; kernel_rfl
theorem call23 {h : Option Addr} {w : World} {Q : Value → World → Prop} (hN : N23 h w Q) : CALL PG 23 [(.pointer h)] w Q := calls_vc tabOk Tryz.func23 (by rw [eq23]; exact hN)

/-- (*brougham/conn.Conn).Info -/
def N33 (x : Option Addr) (w : World) (Q : Value → World → Prop) : Prop :=
 RUNA PG (Instr.alloc 32 true (.tuple #[])) w fun a2 w1 =>
 ∃ S : World → Prop, S (w1.drew) ∧
 (NILC x fun a4 =>
 RDSI PG (loadVar 22 (Addr.add a4 25)) .i64 S fun x6 =>
 NILC x fun a8 =>
 RDSI PG (loadVar 23 (Addr.add a8 26)) .i64 S fun x10 =>
 NILC x fun a12 =>
 RDSI PG (loadVar 24 (Addr.add a12 24)) .i64 S fun x14 =>
 NILC x fun a16 =>
 RDS PG (loadVar 27 (Addr.add (Addr.add a16 0) 0)) S fun v =>
 ∃ x19 : Int, ∃ x19v1 : Int, v = (.agg #[(.int .u64 x19), (.int .u64 x19v1)]) ∧
 (NILC x fun a21 =>
 RDS PG (loadVar 30 (Addr.add a21 30)) S fun v1 =>
 ∃ x23 : Int, ∃ x23v1 : Int, ∃ x23v2 : Int, v1 = (.agg #[(.int .i64 x23), (.int .u16 x23v1), (.int .u16 x23v2)]) ∧
 (NILC x fun a25 =>
 RDSP PG (loadVar 118 (Addr.add a25 35)) S fun x27 =>
 NILC x fun a30 =>
 RDSP PG (loadVar 118 (Addr.add a30 35)) S fun x32 =>
 NILC x fun a35 =>
 RDSP PG (loadVar 119 (Addr.add a35 36)) S fun x37 =>
 NILC x fun a40 =>
 RDSP PG (loadVar 119 (Addr.add a40 36)) S fun x42 =>
 NILC x fun a45 =>
 RDSP PG (loadVar 118 (Addr.add a45 35)) S fun x47 =>
 NILC x fun a50 =>
 RDSP PG (loadVar 119 (Addr.add a50 36)) S fun x52 =>
 NILC x fun a55 =>
 RDSI PG (loadVar 3 (Addr.add a55 45)) .i64 S fun x57 =>
 NILC x fun a59 =>
 RDSL PG (loadVar 115 (Addr.add a59 33)) S fun x61 x61N x61C =>
 NILC x fun a64 =>
 RDSP PG (loadVar 120 (Addr.add a64 37)) S fun x66 =>
 NILC x fun a69 =>
 RDSP PG (loadVar 118 (Addr.add a69 35)) S fun x71 =>
 NILC x71 fun a72 =>
 RDSP PG (loadVar 130 (Addr.add a72 0)) S fun x74 =>
 NILC x fun a77 =>
 RDSP PG (loadVar 119 (Addr.add a77 36)) S fun x79 =>
 NILC x79 fun a80 =>
 RDSP PG (loadVar 130 (Addr.add a80 0)) S fun x82 =>
 CALL PG 43 [(.pointer x27)] (w1.drew) fun v2 w2 =>
 ∃ x28 : Int, v2 = (.int .u64 x28) ∧
 (∃ S1 : World → Prop, (∀ x, S1 x → S x) ∧ S1 w2 ∧
 (CALL PG 44 [(.pointer x32)] w2 fun v3 w3 =>
 ∃ x33 : Int, v3 = (.int .u64 x33) ∧
 (∃ S2 : World → Prop, (∀ x, S2 x → S1 x) ∧ S2 w3 ∧
 (CALL PG 45 [(.pointer x37)] w3 fun v4 w4 =>
 ∃ x38 : Int, v4 = (.int .u64 x38) ∧
 (∃ S3 : World → Prop, (∀ x, S3 x → S2 x) ∧ S3 w4 ∧
 (CALL PG 46 [(.pointer x42)] w4 fun v5 w5 =>
 ∃ x43 : Int, v5 = (.int .u64 x43) ∧
 (∃ S4 : World → Prop, (∀ x, S4 x → S3 x) ∧ S4 w5 ∧
 (CALL PG 47 [(.pointer x47)] w5 fun v6 w6 =>
 ∃ x48 : Bool, v6 = (.bool x48) ∧
 (∃ S5 : World → Prop, (∀ x, S5 x → S4 x) ∧ S5 w6 ∧
 (CALL PG 48 [(.pointer x52)] w6 fun v7 w7 =>
 ∃ x53 : Bool, v7 = (.bool x53) ∧
 (∃ S6 : World → Prop, (∀ x, S6 x → S5 x) ∧ S6 w7 ∧
 (CALL PG 49 [(.pointer x66)] w7 fun v8 w8 =>
 ∃ x67 : Int, v8 = (.int .i64 x67) ∧
 (∃ S7 : World → Prop, (∀ x, S7 x → S6 x) ∧ S7 w8 ∧
 (CALL PG 50 [(.pointer x74)] w8 fun v9 w9 =>
 ∃ x75 : Int, v9 = (.int .i64 x75) ∧
 (∃ S8 : World → Prop, (∀ x, S8 x → S7 x) ∧ S8 w9 ∧
 (CALL PG 50 [(.pointer x82)] w9 fun v10 w10 =>
 ∃ x83 : Int, v10 = (.int .i64 x83) ∧
 (∃ S9 : World → Prop, (∀ x, S9 x → S8 x) ∧ S9 w10 ∧
 (RDS PG (Instr.build 32 #[(0, (.int .i64 x6)), (1, (.int .i64 x10)), (2, (.int .i64 x14)), (3, (.agg #[(.int .u64 x19), (.int .u64 x19v1)])), (4, (.agg #[(.int .i64 x23), (.int .u16 x23v1), (.int .u16 x23v2)])), (5, (.int .u64 x28)), (6, (.int .u64 x33)), (7, (.int .u64 x38)), (8, (.int .u64 x43)), (9, (.bool x48)), (10, (.bool x53)), (11, (.int .i64 x57)), (12, (.int .i64 (x61N : Int))), (13, (.int .i64 x67)), (14, (.int .i64 (IntKind.i64.wrap (x75 + x83))))]) S9 fun v11 =>
 ∃ x85 : Int, ∃ x85v1 : Int, ∃ x85v2 : Int, ∃ x85v3 : Int, ∃ x85v4 : Int, ∃ x85v5 : Int, ∃ x85v6 : Int, ∃ x85v7 : Int, ∃ x85v8 : Int, ∃ x85v9 : Int, ∃ x85v10 : Int, ∃ x85v11 : Int, ∃ x85v12 : Bool, ∃ x85v13 : Bool, ∃ x85v14 : Int, ∃ x85v15 : Int, ∃ x85v16 : Int, ∃ x85v17 : Int, v11 = (.agg #[(.int .i64 x85), (.int .i64 x85v1), (.int .i64 x85v2), (.int .u64 x85v3), (.int .u64 x85v4), (.int .i64 x85v5), (.int .u16 x85v6), (.int .u16 x85v7), (.int .u64 x85v8), (.int .u64 x85v9), (.int .u64 x85v10), (.int .u64 x85v11), (.bool x85v12), (.bool x85v13), (.int .i64 x85v14), (.int .i64 x85v15), (.int .i64 x85v16), (.int .i64 x85v17)]) ∧
 (RUNU PG (storeVar 32 a2 (.agg #[(.int .i64 x85), (.int .i64 x85v1), (.int .i64 x85v2), (.int .u64 x85v3), (.int .u64 x85v4), (.int .i64 x85v5), (.int .u16 x85v6), (.int .u16 x85v7), (.int .u64 x85v8), (.int .u64 x85v9), (.int .u64 x85v10), (.int .u64 x85v11), (.bool x85v12), (.bool x85v13), (.int .i64 x85v14), (.int .i64 x85v15), (.int .i64 x85v16), (.int .i64 x85v17)])) w10 fun w11 =>
 RD PG (loadVar 32 a2) w11 fun v13 =>
 ∃ r : Int, ∃ r1 : Int, ∃ r2 : Int, ∃ r3 : Int, ∃ r4 : Int, ∃ r5 : Int, ∃ r6 : Int, ∃ r7 : Int, ∃ r8 : Int, ∃ r9 : Int, ∃ r10 : Int, ∃ r11 : Int, ∃ r12 : Bool, ∃ r13 : Bool, ∃ r14 : Int, ∃ r15 : Int, ∃ r16 : Int, ∃ r17 : Int, v13 = (.agg #[(.int .i64 r), (.int .i64 r1), (.int .i64 r2), (.int .u64 r3), (.int .u64 r4), (.int .i64 r5), (.int .u16 r6), (.int .u16 r7), (.int .u64 r8), (.int .u64 r9), (.int .u64 r10), (.int .u64 r11), (.bool r12), (.bool r13), (.int .i64 r14), (.int .i64 r15), (.int .i64 r16), (.int .i64 r17)]) ∧
 (Q (.agg #[(.int .i64 r), (.int .i64 r1), (.int .i64 r2), (.int .u64 r3), (.int .u64 r4), (.int .i64 r5), (.int .u16 r6), (.int .u16 r7), (.int .u64 r8), (.int .u64 r9), (.int .u64 r10), (.int .u64 r11), (.bool r12), (.bool r13), (.int .i64 r14), (.int .i64 r15), (.int .i64 r16), (.int .i64 r17)]) w11)))))))))))))))))))))))
theorem eq33 : ∀ (x : Option Addr) (w : World) (Q : Value → World → Prop), vcF PG TB Tryz.f33 .nil [(.pointer x)] w Q = N33 x w Q := by intros; kernel_rfl
theorem call33 {x : Option Addr} {w : World} {Q : Value → World → Prop} (hN : N33 x w Q) : CALL PG 33 [(.pointer x)] w Q := calls_vc tabOk Tryz.func33 (by rw [eq33]; exact hN)

/-- (*brougham/host.Host).Sizes$1 -/
def N40 (c : Option Addr) (x1 : Addr) (w : World) (Q : Value → World → Prop) : Prop :=
 CALL PG 33 [(.pointer c)] w fun v w1 =>
 ∃ x5 : Int, ∃ x5v1 : Int, ∃ x5v2 : Int, ∃ x5v3 : Int, ∃ x5v4 : Int, ∃ x5v5 : Int, ∃ x5v6 : Int, ∃ x5v7 : Int, ∃ x5v8 : Int, ∃ x5v9 : Int, ∃ x5v10 : Int, ∃ x5v11 : Int, ∃ x5v12 : Bool, ∃ x5v13 : Bool, ∃ x5v14 : Int, ∃ x5v15 : Int, ∃ x5v16 : Int, ∃ x5v17 : Int, v = (.agg #[(.int .i64 x5), (.int .i64 x5v1), (.int .i64 x5v2), (.int .u64 x5v3), (.int .u64 x5v4), (.int .i64 x5v5), (.int .u16 x5v6), (.int .u16 x5v7), (.int .u64 x5v8), (.int .u64 x5v9), (.int .u64 x5v10), (.int .u64 x5v11), (.bool x5v12), (.bool x5v13), (.int .i64 x5v14), (.int .i64 x5v15), (.int .i64 x5v16), (.int .i64 x5v17)]) ∧
 (RUNA PG (Instr.alloc 32 true (.tuple #[])) w1 fun a3 w2 =>
 RUNU PG (storeVar 32 a3 (.agg #[(.int .i64 x5), (.int .i64 x5v1), (.int .i64 x5v2), (.int .u64 x5v3), (.int .u64 x5v4), (.int .i64 x5v5), (.int .u16 x5v6), (.int .u16 x5v7), (.int .u64 x5v8), (.int .u64 x5v9), (.int .u64 x5v10), (.int .u64 x5v11), (.bool x5v12), (.bool x5v13), (.int .i64 x5v14), (.int .i64 x5v15), (.int .i64 x5v16), (.int .i64 x5v17)])) w2 fun w3 =>
 RDI PG (loadVar 3 (Addr.add x1 3)) .i64 w3 fun x7 =>
 RDI PG (loadVar 3 (Addr.add a3 15)) .i64 w3 fun x9 =>
 RUNU PG (storeVar 3 (Addr.add x1 3) (.int .i64 (IntKind.i64.wrap (x7 + x9)))) w3 fun w4 =>
 RDI PG (loadVar 3 (Addr.add x1 4)) .i64 w4 fun x13 =>
 RDI PG (loadVar 3 (Addr.add a3 16)) .i64 w4 fun x15 =>
 RUNU PG (storeVar 3 (Addr.add x1 4) (.int .i64 (IntKind.i64.wrap (x13 + x15)))) w4 fun w5 =>
 RDI PG (loadVar 3 (Addr.add x1 5)) .i64 w5 fun x19 =>
 RDI PG (loadVar 3 (Addr.add a3 17)) .i64 w5 fun x21 =>
 RUNU PG (storeVar 3 (Addr.add x1 5) (.int .i64 (IntKind.i64.wrap (x19 + x21)))) w5 fun w6 =>
 Q (.tuple #[]) w6)
theorem eq40 : ∀ (c : Option Addr) (x1 : Addr) (w : World) (Q : Value → World → Prop), vcF PG TB Tryz.f40 .nil [(.pointer c), (.pointer (some x1))] w Q = N40 c x1 w Q := by intros; kernel_rfl
theorem call40 {c : Option Addr} {x1 : Addr} {w : World} {Q : Value → World → Prop} (hN : N40 c x1 w Q) : CALL PG 40 [(.pointer c), (.pointer (some x1))] w Q := calls_vc tabOk Tryz.func40 (by rw [eq40]; exact hN)

/-- (*brougham/outlet.Outlet).End -/
def N43 (o : Option Addr) (w : World) (Q : Value → World → Prop) : Prop :=
 ∃ S : World → Prop, S (w.drew) ∧
 (NILC o fun a4 =>
 RDSI PG (loadVar 25 (Addr.add a4 1)) .u64 S fun x6 =>
 NILC o fun a8 =>
 RDSP PG (loadVar 130 (Addr.add a8 0)) S fun x10 =>
 CALL PG 81 [(.pointer x10)] (w.drew) fun v w1 =>
 ∃ x11 : Int, v = (.int .i64 x11) ∧
 (∃ S1 : World → Prop, (∀ x, S1 x → S x) ∧ S1 w1 ∧
 (LETI (IntKind.u64.wrap (x6 + (IntKind.u64.wrap x11))) fun x2 =>
 Q (.int .u64 x2) w1)))
theorem eq43 : ∀ (o : Option Addr) (w : World) (Q : Value → World → Prop), vcF PG TB Tryz.f43 .nil [(.pointer o)] w Q = N43 o w Q := by intros; kernel_rfl
theorem call43 {o : Option Addr} {w : World} {Q : Value → World → Prop} (hN : N43 o w Q) : CALL PG 43 [(.pointer o)] w Q := calls_vc tabOk Tryz.func43 (by rw [eq43]; exact hN)

/-- (*brougham/outlet.Outlet).Base -/
def N44 (o : Option Addr) (w : World) (Q : Value → World → Prop) : Prop :=
 NILC o fun a4 =>
 RDI PG (loadVar 25 (Addr.add a4 1)) .u64 w fun x6 =>
 LETI x6 fun x2 =>
 Q (.int .u64 x2) w
theorem eq44 : ∀ (o : Option Addr) (w : World) (Q : Value → World → Prop), vcF PG TB Tryz.f44 .nil [(.pointer o)] w Q = N44 o w Q := by intros; kernel_rfl
theorem call44 {o : Option Addr} {w : World} {Q : Value → World → Prop} (hN : N44 o w Q) : CALL PG 44 [(.pointer o)] w Q := calls_vc tabOk Tryz.func44 (by rw [eq44]; exact hN)

/-- (*brougham/inlet.Inlet).Next -/
def N45 (x : Option Addr) (w : World) (Q : Value → World → Prop) : Prop :=
 ∃ S : World → Prop, S (w.drew) ∧
 (NILC x fun a4 =>
 RDSI PG (loadVar 25 (Addr.add a4 2)) .u64 S fun x6 =>
 NILC x fun a8 =>
 RDSP PG (loadVar 130 (Addr.add a8 0)) S fun x10 =>
 CALL PG 81 [(.pointer x10)] (w.drew) fun v w1 =>
 ∃ x11 : Int, v = (.int .i64 x11) ∧
 (∃ S1 : World → Prop, (∀ x, S1 x → S x) ∧ S1 w1 ∧
 (LETI (IntKind.u64.wrap (x6 + (IntKind.u64.wrap x11))) fun x2 =>
 Q (.int .u64 x2) w1)))
theorem eq45 : ∀ (x : Option Addr) (w : World) (Q : Value → World → Prop), vcF PG TB Tryz.f45 .nil [(.pointer x)] w Q = N45 x w Q := by intros; kernel_rfl
theorem call45 {x : Option Addr} {w : World} {Q : Value → World → Prop} (hN : N45 x w Q) : CALL PG 45 [(.pointer x)] w Q := calls_vc tabOk Tryz.func45 (by rw [eq45]; exact hN)

/-- (*brougham/inlet.Inlet).Base -/
def N46 (x : Option Addr) (w : World) (Q : Value → World → Prop) : Prop :=
 NILC x fun a4 =>
 RDI PG (loadVar 25 (Addr.add a4 2)) .u64 w fun x6 =>
 LETI x6 fun x2 =>
 Q (.int .u64 x2) w
theorem eq46 : ∀ (x : Option Addr) (w : World) (Q : Value → World → Prop), vcF PG TB Tryz.f46 .nil [(.pointer x)] w Q = N46 x w Q := by intros; kernel_rfl
theorem call46 {x : Option Addr} {w : World} {Q : Value → World → Prop} (hN : N46 x w Q) : CALL PG 46 [(.pointer x)] w Q := calls_vc tabOk Tryz.func46 (by rw [eq46]; exact hN)

/-- (*brougham/outlet.Outlet).Closed -/
def N47 (o : Option Addr) (w : World) (Q : Value → World → Prop) : Prop :=
 NILC o fun a4 =>
 RDB PG (loadVar 4 (Addr.add a4 2)) w fun x6 =>
 LETB x6 fun x2 =>
 Q (.bool x2) w
theorem eq47 : ∀ (o : Option Addr) (w : World) (Q : Value → World → Prop), vcF PG TB Tryz.f47 .nil [(.pointer o)] w Q = N47 o w Q := by intros; kernel_rfl
theorem call47 {o : Option Addr} {w : World} {Q : Value → World → Prop} (hN : N47 o w Q) : CALL PG 47 [(.pointer o)] w Q := calls_vc tabOk Tryz.func47 (by rw [eq47]; exact hN)

/-- (*brougham/inlet.Inlet).Ended -/
def N48 (x : Option Addr) (w : World) (Q : Value → World → Prop) : Prop :=
 ∃ S : World → Prop, S (w.drew) ∧
 (NILC x fun a4 =>
 RDSB PG (loadVar 4 (Addr.add a4 4)) S fun x6 =>
 IFB x6
 (NILC x fun a11 =>
 RDSI PG (loadVar 25 (Addr.add a11 3)) .u64 S fun x13 =>
 CALL PG 45 [(.pointer x)] (w.drew) fun v w1 =>
 ∃ x9 : Int, v = (.int .u64 x9) ∧
 (∃ S1 : World → Prop, (∀ x, S1 x → S x) ∧ S1 w1 ∧
 (LETB (x9 == x13) fun x2 =>
 Q (.bool x2) w1)))
 (LETB false fun x2v1 =>
 Q (.bool x2v1) (w.drew)))
theorem eq48 : ∀ (x : Option Addr) (w : World) (Q : Value → World → Prop), vcF PG TB Tryz.f48 .nil [(.pointer x)] w Q = N48 x w Q := by intros; kernel_rfl
theorem call48 {x : Option Addr} {w : World} {Q : Value → World → Prop} (hN : N48 x w Q) : CALL PG 48 [(.pointer x)] w Q := calls_vc tabOk Tryz.func48 (by rw [eq48]; exact hN)

/-- (*brougham/flight.List).Len -/
def N49 (x : Option Addr) (w : World) (Q : Value → World → Prop) : Prop :=
 NILC x fun a4 =>
 RDL PG (loadVar 186 (Addr.add a4 1)) w fun x6 x6N x6C =>
 LETI (x6N : Int) fun x2 =>
 Q (.int .i64 x2) w
theorem eq49 : ∀ (x : Option Addr) (w : World) (Q : Value → World → Prop), vcF PG TB Tryz.f49 .nil [(.pointer x)] w Q = N49 x w Q := by intros; kernel_rfl
theorem call49 {x : Option Addr} {w : World} {Q : Value → World → Prop} (hN : N49 x w Q) : CALL PG 49 [(.pointer x)] w Q := calls_vc tabOk Tryz.func49 (by rw [eq49]; exact hN)

/-- (*brougham/ring.Ring).Size -/
def N50 (r : Option Addr) (w : World) (Q : Value → World → Prop) : Prop :=
 NILC r fun a4 =>
 RDL PG (loadVar 95 (Addr.add a4 0)) w fun x6 x6N x6C =>
 LETI (x6N : Int) fun x2 =>
 Q (.int .i64 x2) w
theorem eq50 : ∀ (r : Option Addr) (w : World) (Q : Value → World → Prop), vcF PG TB Tryz.f50 .nil [(.pointer r)] w Q = N50 r w Q := by intros; kernel_rfl
theorem call50 {r : Option Addr} {w : World} {Q : Value → World → Prop} (hN : N50 r w Q) : CALL PG 50 [(.pointer r)] w Q := calls_vc tabOk Tryz.func50 (by rw [eq50]; exact hN)

/-- (*brougham/ring.Ring).Len -/
def N81 (r : Option Addr) (w : World) (Q : Value → World → Prop) : Prop :=
 NILC r fun a4 =>
 RDI PG (loadVar 3 (Addr.add a4 2)) .i64 w fun x6 =>
 LETI x6 fun x2 =>
 Q (.int .i64 x2) w
theorem eq81 : ∀ (r : Option Addr) (w : World) (Q : Value → World → Prop), vcF PG TB Tryz.f81 .nil [(.pointer r)] w Q = N81 r w Q := by intros; kernel_rfl
theorem call81 {r : Option Addr} {w : World} {Q : Value → World → Prop} (hN : N81 r w Q) : CALL PG 81 [(.pointer r)] w Q := calls_vc tabOk Tryz.func81 (by rw [eq81]; exact hN)

end Go.Br

/- What one may see of a host and of its connections. -/
set_option linter.unusedVariables false
set_option linter.unusedSimpArgs false
set_option linter.unnecessarySimpa false
namespace Go.Br
open Go
instance biHostInfoa : Bld PG (Instr.build 32 #[]) (.agg #[.int .i64 0, .int .i64 0, .int .i64 0, .int .u64 0, .int .u64 0, .int .i64 0, .int .u16 0, .int .u16 0, .int .u64 0, .int .u64 0, .int .u64 0, .int .u64 0, .bool false, .bool false, .int .i64 0, .int .i64 0, .int .i64 0, .int .i64 0]) := ⟨fun w => by kernel_rfl⟩
instance biHostInfob : Zro PG 32 18 128 (.agg #[.int .i64 0, .int .i64 0, .int .i64 0, .int .u64 0, .int .u64 0, .int .i64 0, .int .u16 0, .int .u16 0, .int .u64 0, .int .u64 0, .int .u64 0, .int .u64 0, .bool false, .bool false, .int .i64 0, .int .i64 0, .int .i64 0, .int .i64 0]) := ⟨tiOf (by kernel_rfl)⟩
instance biHostInfoc : Zro PG 64 10 80 (.agg #[.int .i64 0, .int .i64 0, .int .i64 0, .int .i64 0, .int .i64 0, .int .i64 0, .int .i64 0, .int .i64 0, .int .i64 0, .int .i64 0]) := ⟨tiOf (by kernel_rfl)⟩
instance biHostInfod (x0 : Int) (x1 : Int) (x2 : Int) (x3 : Int) (x4 : Int) (x5 : Int) (x6 : Int) (x7 : Int) (x8 : Int) (x9 : Int) (x10 : Int) (x11 : Int) (x12 : Bool) (x13 : Bool) (x14 : Int) (x15 : Int) (x16 : Int) (x17 : Int) : Bld PG (Instr.build 32 #[(0, .int .i64 x0), (1, .int .i64 x1), (2, .int .i64 x2), (3, .agg #[.int .u64 x3, .int .u64 x4]), (4, .agg #[.int .i64 x5, .int .u16 x6, .int .u16 x7]), (5, .int .u64 x8), (6, .int .u64 x9), (7, .int .u64 x10), (8, .int .u64 x11), (9, .bool x12), (10, .bool x13), (11, .int .i64 x14), (12, .int .i64 x15), (13, .int .i64 x16), (14, .int .i64 x17)]) (.agg #[.int .i64 x0, .int .i64 x1, .int .i64 x2, .int .u64 x3, .int .u64 x4, .int .i64 x5, .int .u16 x6, .int .u16 x7, .int .u64 x8, .int .u64 x9, .int .u64 x10, .int .u64 x11, .bool x12, .bool x13, .int .i64 x14, .int .i64 x15, .int .i64 x16, .int .i64 x17]) := ⟨fun w => by kernel_rfl⟩
attribute [local irreducible] Addr.add RD RDS RUN RUNU NILC LETB CALL CALLX CALLV

theorem tiIntH : TI PG 3 1 8 (.int .i64 0) := tiOf (by kernel_rfl)
theorem tiConnpH : TI PG 84 1 8 (.pointer none) := tiOf (by kernel_rfl)
theorem huIntsH : PG.underlying 69 = some (.slice 3) := by kernel_rfl
structure Inf where
  state : Int
  cause : Int
  role : Int
  idK0 : Int
  idK1 : Int
  firstPath : Int
  firstLocal : Int
  firstRemote : Int
  accepted : Int
  acked : Int
  came : Int
  read : Int
  closed : Bool
  ended : Bool
  silence : Int
  flows : Int
  under : Int
  held : Int
def inf (x : Inf) : List Value := [.int .i64 x.state, .int .i64 x.cause, .int .i64 x.role, .int .u64 x.idK0, .int .u64 x.idK1, .int .i64 x.firstPath, .int .u16 x.firstLocal, .int .u16 x.firstRemote, .int .u64 x.accepted, .int .u64 x.acked, .int .u64 x.came, .int .u64 x.read, .bool x.closed, .bool x.ended, .int .i64 x.silence, .int .i64 x.flows, .int .i64 x.under, .int .i64 x.held]
abbrev infv (x : Inf) : Value := .agg #[.int .i64 x.state, .int .i64 x.cause, .int .i64 x.role, .int .u64 x.idK0, .int .u64 x.idK1, .int .i64 x.firstPath, .int .u16 x.firstLocal, .int .u16 x.firstRemote, .int .u64 x.accepted, .int .u64 x.acked, .int .u64 x.came, .int .u64 x.read, .bool x.closed, .bool x.ended, .int .i64 x.silence, .int .i64 x.flows, .int .i64 x.under, .int .i64 x.held]
theorem inf_length (x : Inf) : (inf x).length = 18 := rfl
theorem inf_flat1 (x : Inf) : Flat (inf x) := by intro v hv; simp [inf] at hv; rcases hv with rfl | rfl | rfl | rfl | rfl | rfl | rfl | rfl | rfl | rfl | rfl | rfl | rfl | rfl | rfl | rfl | rfl | rfl <;> rfl
theorem inf_flat (L : List Inf) : Flat (L.flatMap inf) := by
  intro v hv
  simp only [List.mem_flatMap] at hv
  obtain ⟨x, _, hx⟩ := hv
  exact inf_flat1 x v hx
/-- What of a connection's parts is told. -/
structure Kb where
  o : Nat
  r : Nat
  i : Nat
  r2 : Nat
  y : Nat
  ob : Int
  oc : Bool
  od : Bool
  rA : Option Addr
  rN : Nat
  rC : Nat
  ra : Int
  rl : Int
  s : Option Addr
  ib : Int
  ie : Int
  ik : Bool
  qA : Option Addr
  qN : Nat
  qC : Nat
  qa : Int
  ql : Int
  ym : Int
  yA : Option Addr
  yN : Nat
  yC : Nat
def Cn.at (X : Cn) (K : Kb) : Cn := { X with out := some ⟨K.o, 0, none⟩, inn := some ⟨K.i, 0, none⟩, way := some ⟨K.y, 0, none⟩ }
abbrev coB (x : Nat) (X : Cn) (K : Kb) (L : List SA) : List SA :=
  blk x 123 (cnc (X.at K)) :: blk K.o 132 [.pointer (some ⟨K.r, 0, none⟩), .int .u64 K.ob, .bool K.oc, .bool K.od] :: blk K.r 190 [.slice K.rA K.rN K.rC, .int .i64 K.ra, .int .i64 K.rl] ::
  blk K.i 135 [.pointer (some ⟨K.r2, 0, none⟩), .pointer K.s, .int .u64 K.ib, .int .u64 K.ie, .bool K.ik] :: blk K.r2 190 [.slice K.qA K.qN K.qC, .int .i64 K.qa, .int .i64 K.ql] :: blk K.y 188 [.int .i64 K.ym, .slice K.yA K.yN K.yC] :: L
structure KbOk (K : Kb) : Prop where
  ob : 0 ≤ K.ob ∧ K.ob ≤ 4611686018427387904
  rl : 0 ≤ K.rl ∧ K.rl ≤ 1000000
  ib : 0 ≤ K.ib ∧ K.ib ≤ 4611686018427387904
  ql : 0 ≤ K.ql ∧ K.ql ≤ 1000000
  rN : K.rN ≤ 1000000
  qN : K.qN ≤ 1000000
  yN : K.yN ≤ 1000000
def infOf (X : Cn) (K : Kb) : Inf :=
  ⟨X.state, X.cause, X.role, X.keysIDK0, X.keysIDK1, X.firstPath, X.firstLocal, X.firstRemote, K.ob + K.rl, K.ob, K.ib + K.ql, K.ib, K.oc, K.ik && (K.ib + K.ql == K.ie), X.silence, X.flowsN, K.yN, K.rN + K.qN⟩
section
variable {c : Ctx} {w : World} {L R : List SA}
set_option maxRecDepth 20000 in
theorem cinfo_ok {x : Nat} {X : Cn} {K : Kb} (h : St c w (coB x X K L)) (ok : KbOk K) {Q : Value → World → Prop} (hk : ∀ w', St c w' (coB x X K L) → Q (infv (infOf X K)) w') : CALL PG 33 [.pointer (some ⟨x, 0, none⟩)] w Q := by
  obtain ⟨h1, h2, h3, h4, h5, h6, h7⟩ := ok
  refine call33 ?_
  unfold N33
  refine h.allocZ fun q w' h => ?_
  have h := h.drew
  refine ⟨fun w => St c w [blk x 123 (cnc (X.at K)), blk K.o 132 [.pointer (some ⟨K.r, 0, none⟩), .int .u64 K.ob, .bool K.oc, .bool K.od], blk K.i 135 [.pointer (some ⟨K.r2, 0, none⟩), .pointer K.s, .int .u64 K.ib, .int .u64 K.ie, .bool K.ik]], h.sub (.cons (.tail .head) (.cons (.tail .head) (.cons (.tail (.tail .head)) (.nil)))), ?_⟩
  simp only [add_add, Nat.reduceAdd]
  refine nilc (St.rdsI (B := x) 25 (nilc (St.rdsI (B := x) 26 (nilc (St.rdsI (B := x) 24 (nilc ?_))))))
  refine St.rdsGo (B := x) 0 2 ?_
  (repeat (first | apply Exists.intro (α := Int) | apply Exists.intro (α := Bool) | apply Exists.intro (α := ByteArray) | (apply Exists.intro (α := Option Addr); apply Exists.intro (α := Nat); apply Exists.intro (α := Nat)) | apply Exists.intro (α := Option Addr) | apply Exists.intro (α := Value)))
  refine ⟨rfl, ?_⟩
  refine nilc (St.rdsGo (B := x) 30 3 ?_)
  (repeat (first | apply Exists.intro (α := Int) | apply Exists.intro (α := Bool) | apply Exists.intro (α := ByteArray) | (apply Exists.intro (α := Option Addr); apply Exists.intro (α := Nat); apply Exists.intro (α := Nat)) | apply Exists.intro (α := Option Addr) | apply Exists.intro (α := Value)))
  refine ⟨rfl, ?_⟩
  refine nilc (St.rdsP (B := x) 35 (nilc (St.rdsP (B := x) 35 (nilc (St.rdsP (B := x) 36 (nilc (St.rdsP (B := x) 36 (nilc (St.rdsP (B := x) 35 (nilc (St.rdsP (B := x) 36 (nilc ?_))))))))))))
  refine St.rdsI (B := x) 45 (nilc (St.rdsL (B := x) 33 (nilc (St.rdsP (B := x) 37 (nilc (St.rdsP (B := x) 35 (nilc (St.rdsP (B := K.o) 0 (nilc (St.rdsP (B := x) 36 (nilc (St.rdsP (B := K.i) 0 ?_))))))))))))
  have keep : ∀ {w'} {S : World → Prop}, (∀ w, St c w [blk x 123 (cnc (X.at K)), blk K.o 132 [.pointer (some ⟨K.r, 0, none⟩), .int .u64 K.ob, .bool K.oc, .bool K.od], blk K.i 135 [.pointer (some ⟨K.r2, 0, none⟩), .pointer K.s, .int .u64 K.ib, .int .u64 K.ie, .bool K.ik]] → S w) → St c w' (blk q 32 (inf ⟨0, 0, 0, 0, 0, 0, 0, 0, 0, 0, 0, 0, false, false, 0, 0, 0, 0⟩) :: coB x X K L) → S w' := fun f h => f _ (h.sub (.cons (.tail .head) (.cons (.tail .head) (.cons (.tail (.tail .head)) (.nil)))))
  -- End
  refine call43 ?_
  unfold N43
  have h := h.drew
  refine ⟨fun w => St c w [blk K.o 132 [.pointer (some ⟨K.r, 0, none⟩), .int .u64 K.ob, .bool K.oc, .bool K.od]], h.sub (.cons (.tail (.tail .head)) (.nil)), ?_⟩
  refine nilc (St.rdsI (B := K.o) 1 (nilc (St.rdsP (B := K.o) 0 ?_)))
  refine call81 ?_
  unfold N81
  refine nilc (h.rdI (B := K.r) 2 (leti rfl ⟨_, rfl, _, fun _ h => h, h.sub (.cons (.tail (.tail .head)) (.nil)), leti (y := K.ob + K.rl) ?_ ⟨_, rfl, _, fun _ h => h, keep (fun _ h => h) h, ?_⟩⟩))
  · rw [wrapU64 (n := K.rl), wrapU64]; omega
  -- Base
  refine call44 ?_
  unfold N44
  refine nilc (h.rdI (B := K.o) 1 (leti rfl ⟨_, rfl, _, fun _ h => h, keep (fun _ h => h) h, ?_⟩))
  -- Next
  have nx : ∀ {w'} {Q' : Value → World → Prop}, St c w' (blk q 32 (inf ⟨0, 0, 0, 0, 0, 0, 0, 0, 0, 0, 0, 0, false, false, 0, 0, 0, 0⟩) :: coB x X K L) → (∀ w', St c w' (blk q 32 (inf ⟨0, 0, 0, 0, 0, 0, 0, 0, 0, 0, 0, 0, false, false, 0, 0, 0, 0⟩) :: coB x X K L) → Q' (.int .u64 (K.ib + K.ql)) w') → CALL PG 45 [.pointer (some ⟨K.i, 0, none⟩)] w' Q' := by
    intro w' Q' h hk
    refine call45 ?_
    unfold N45
    have h := h.drew
    refine ⟨fun w => St c w [blk K.i 135 [.pointer (some ⟨K.r2, 0, none⟩), .pointer K.s, .int .u64 K.ib, .int .u64 K.ie, .bool K.ik]], h.sub (.cons (.tail (.tail (.tail (.tail .head)))) (.nil)), ?_⟩
    refine nilc (St.rdsI (B := K.i) 2 (nilc (St.rdsP (B := K.i) 0 ?_)))
    refine call81 ?_
    unfold N81
    refine nilc (h.rdI (B := K.r2) 2 (leti rfl ⟨_, rfl, _, fun _ h => h, h.sub (.cons (.tail (.tail (.tail (.tail .head)))) (.nil)), leti (y := K.ib + K.ql) ?_ (hk _ h)⟩))
    rw [wrapU64 (n := K.ql), wrapU64]; omega
  refine nx h fun w' h => ⟨_, rfl, _, fun _ h => h, keep (fun _ h => h) h, ?_⟩
  refine call46 ?_
  unfold N46
  refine nilc (h.rdI (B := K.i) 2 (leti rfl ⟨_, rfl, _, fun _ h => h, keep (fun _ h => h) h, ?_⟩))
  refine call47 ?_
  unfold N47
  refine nilc (h.rdB (B := K.o) 2 (letb rfl ⟨_, rfl, _, fun _ h => h, keep (fun _ h => h) h, ?_⟩))
  -- Ended
  have en : ∀ {w'} {Q' : Value → World → Prop}, St c w' (blk q 32 (inf ⟨0, 0, 0, 0, 0, 0, 0, 0, 0, 0, 0, 0, false, false, 0, 0, 0, 0⟩) :: coB x X K L) → (∀ w', St c w' (blk q 32 (inf ⟨0, 0, 0, 0, 0, 0, 0, 0, 0, 0, 0, 0, false, false, 0, 0, 0, 0⟩) :: coB x X K L) → Q' (.bool (K.ik && (K.ib + K.ql == K.ie))) w') → CALL PG 48 [.pointer (some ⟨K.i, 0, none⟩)] w' Q' := by
    intro w' Q' h hk
    refine call48 ?_
    unfold N48
    have h := h.drew
    refine ⟨fun w => St c w [blk K.i 135 [.pointer (some ⟨K.r2, 0, none⟩), .pointer K.s, .int .u64 K.ib, .int .u64 K.ie, .bool K.ik]], h.sub (.cons (.tail (.tail (.tail (.tail .head)))) (.nil)), ?_⟩
    refine nilc (St.rdsB (B := K.i) 4 ?_)
    refine ifb (fun e => ?_) fun e => ?_
    · refine nilc (St.rdsI (B := K.i) 3 ?_)
      refine nx h fun w' h => ⟨_, rfl, _, fun _ h => h, h.sub (.cons (.tail (.tail (.tail (.tail .head)))) (.nil)), letb rfl ?_⟩
      have := hk _ h
      rwa [e, Bool.true_and] at this
    · have := hk _ h
      rw [e, Bool.false_and] at this
      exact letb rfl this
  refine en h fun w' h => ⟨_, rfl, _, fun _ h => h, keep (fun _ h => h) h, ?_⟩
  refine call49 ?_
  unfold N49
  refine nilc (h.rdL (B := K.y) 1 (leti rfl ⟨_, rfl, _, fun _ h => h, keep (fun _ h => h) h, ?_⟩))
  refine call50 ?_
  unfold N50
  refine nilc (h.rdL (B := K.r) 0 (leti rfl ⟨_, rfl, _, fun _ h => h, keep (fun _ h => h) h, ?_⟩))
  refine call50 ?_
  unfold N50
  refine nilc (h.rdL (B := K.r2) 0 (leti rfl ⟨_, rfl, _, fun _ h => h, keep (fun _ h => h) h, ?_⟩))
  rw [wrap_i64 (n := (K.rN : Int) + K.qN) (by omega) (by omega)]
  refine RDS.bld ?_
  (repeat (first | apply Exists.intro (α := Int) | apply Exists.intro (α := Bool) | apply Exists.intro (α := ByteArray) | (apply Exists.intro (α := Option Addr); apply Exists.intro (α := Nat); apply Exists.intro (α := Nat)) | apply Exists.intro (α := Option Addr) | apply Exists.intro (α := Value)))
  refine ⟨rfl, ?_⟩
  refine h.stG (B := q) fun w' h => ?_
  refine h.rdG (B := q) ?_
  (repeat (first | apply Exists.intro (α := Int) | apply Exists.intro (α := Bool) | apply Exists.intro (α := ByteArray) | (apply Exists.intro (α := Option Addr); apply Exists.intro (α := Nat); apply Exists.intro (α := Nat)) | apply Exists.intro (α := Option Addr) | apply Exists.intro (α := Value)))
  refine ⟨rfl, ?_⟩
  exact hk _ h.drop
theorem St.mlook1 {P : Program} {r : Nat} {E : List (Int × Value)} {t kt e z b : TypeId} {zv : Value} {k : Int} {x : Option Addr} {K : Option Addr → Prop} (h : St c w L) (hp : Pick (mp r E) L R) (hk : K x) (hx : (mget E k).getD zv = .pointer x) (ht : P.underlying t = some (.map kt e)) (hkt : P.underlying kt = some (.int .i64)) (hi : TI P e z b zv) :
    RDP P (Instr.lookup t (.map (some r)) (.int .i64 k) false) w K := by
  obtain ⟨⟨es, clock, h1, h2, _⟩, _⟩ := h.mapO hp
  obtain ⟨i, hi1, _, _, hz⟩ := hi
  unfold RDP
  refine RD.of (v := .pointer x) ?_ ⟨x, rfl, hk⟩
  have hc := run_checkKey (P := P) hkt es.isEmpty 9999 k w
  have hf := run_findKey (P := P) hkt (k := k) h2 w
  unfold mget at hx
  simp only [Instr.lookup, Sem.run_bind, run_und ht, Result.andThen_ok, run_getMap h1, Sem.run_pure]
  rw [hc]
  simp only [Result.andThen_ok, hf]
  cases hm : mgo k E 0 with
  | none => rw [hm] at hx; simp at hx; simp [zeroValue, run_info hi1, hz, hx]
  | some q => obtain ⟨j, v⟩ := q; rw [hm] at hx; simp at hx; simp [hx]
theorem hinfo_ok {p x r : Nat} {H : Hst} {E : List (Int × Value)} {n : Int} {X : Cn} {K : Kb} (h : St c w (blk p 68 (hst { H with conns := r }) :: mp r E :: coB x X K L)) (hn : mget E n = some (.pointer (some ⟨x, 0, none⟩))) (ok : KbOk K) {Q : Value → World → Prop}
    (hk : ∀ w', St c w' (blk p 68 (hst { H with conns := r }) :: mp r E :: coB x X K L) → Q (.tuple #[infv (infOf X K), .bool true]) w') : CALL PG 19 [.pointer (some ⟨p, 0, none⟩), .int .i64 n] w Q := by
  refine call19 ?_
  unfold N19
  refine h.allocZ fun q w' h => nilc ?_
  refine h.rdMp (B := p) 29 ⟨_, rfl, ?_⟩
  refine h.mlook1 (x := some ⟨x, 0, none⟩) (.tail (.tail .head)) ?_ (by rw [hn]; rfl) huConns huInt64 tiConnpH
  refine iff_ rfl ?_
  refine cinfo_ok (h.sub (show Sub _ (coB x X K (blk q 32 (inf ⟨0, 0, 0, 0, 0, 0, 0, 0, 0, 0, 0, 0, false, false, 0, 0, 0, 0⟩) :: blk p 68 (hst { H with conns := r }) :: mp r E :: L)) from (.cons (.tail (.tail (.tail .head))) (.cons (.tail (.tail (.tail .head))) (.cons (.tail (.tail (.tail .head))) (.cons (.tail (.tail (.tail .head))) (.cons (.tail (.tail (.tail .head))) (.cons (.tail (.tail (.tail .head))) (.cons .head (.cons .head (.cons .head ((Sub.same _))))))))))))) ok fun w' h => ?_
  (repeat (first | apply Exists.intro (α := Int) | apply Exists.intro (α := Bool) | apply Exists.intro (α := ByteArray) | (apply Exists.intro (α := Option Addr); apply Exists.intro (α := Nat); apply Exists.intro (α := Nat)) | apply Exists.intro (α := Option Addr) | apply Exists.intro (α := Value)))
  refine ⟨rfl, ?_⟩
  refine h.stG (B := q) fun w' h => ?_
  refine h.rdG (B := q) ?_
  (repeat (first | apply Exists.intro (α := Int) | apply Exists.intro (α := Bool) | apply Exists.intro (α := ByteArray) | (apply Exists.intro (α := Option Addr); apply Exists.intro (α := Nat); apply Exists.intro (α := Nat)) | apply Exists.intro (α := Option Addr) | apply Exists.intro (α := Value)))
  refine ⟨rfl, ?_⟩
  exact hk _ (h.sub (.cons (.tail (.tail (.tail (.tail (.tail (.tail (.tail .head))))))) (.cons (.tail (.tail (.tail (.tail (.tail (.tail (.tail .head))))))) (.cons (.tail .head) (.cons (.tail .head) (.cons (.tail .head) (.cons (.tail .head) (.cons (.tail .head) (.cons (.tail .head) ((Sub.same _).more))))))))))
theorem handles_ok {p r : Nat} {H : Hst} {E : List (Int × Value)} (h : St c w (blk p 68 (hst { H with conns := r }) :: mp r E :: L)) (hE : E.length ≤ 12) {Q : Value → World → Prop}
    (hk : ∀ O d C w', Srt fI C → C.Perm (E.map Prod.fst) → St c w' (own 3 1 O C.length d (C.flatMap iv) :: blk p 68 (hst { H with conns := r }) :: mp r E :: L) → Q (.slice O C.length d) w') : CALL PG 18 [.pointer (some ⟨p, 0, none⟩)] w Q := by
  refine call18 ?_
  unfold N18
  refine nilc (h.rdMp (B := p) 29 ⟨_, rfl, ?_⟩)
  have h := h.addOwnNil 3 1
  refine h.mrange (.tail (.tail .head)) (fun it w' h => ?_) huConns
  refine ⟨fun m o oN oC w => ∃ (V : List (Int × Value)) (cur : Option (Int × Value)) (ys : List Int), m = V.length ∧ oN = ys.length ∧ (ys ++ V.map Prod.fst).Perm (E.map Prod.fst) ∧ St c w (own 3 1 o oN oC (ys.flatMap iv) :: mpr r it E V cur :: blk p 68 (hst { H with conns := r }) :: L), ⟨_, E, none, [], rfl, rfl, by simp, h.sub (.cons (.tail .head) (.cons .head (.cons .head ((Sub.same _)))))⟩, ?_⟩
  clear h
  rintro m o oN oC w' ⟨V, cur, ys, rfl, rfl, hpm, h⟩
  have hlen := hpm.length_eq
  simp at hlen
  refine h.mnext (.tail .head) (fun w' hV0 h => ⟨false, [], rfl, iff_ rfl ?_⟩) fun q V' w' hp h => ⟨true, [_, _], rfl, ift rfl ?_⟩
  · subst hV0
    simp at hpm hlen
    have h := h.mend
    have h := h.sub (show Sub _ (own 3 1 o ys.length oC (ys.flatMap iv) :: blk p 68 (hst { H with conns := r }) :: mp r E :: L) from (.cons (.tail .head) (.cons (.tail .head) (.cons .head ((Sub.same _))))))
    refine sortI_ok rfl (by omega) h fun w' C hs hC h => ⟨rfl, ?_⟩
    have := hk o oC C w' hs (hC.trans hpm) (by rw [hC.length_eq]; exact h)
    rwa [hC.length_eq] at this
  · have hlen2 := hp.length_eq
    simp at hlen2
    refine h.mentry .head ⟨_, _, rfl, _, rfl, leti rfl ?_⟩
    refine h.app1 huIntsH tiIntH (iv q.1) (.tail .head) (iv_flat1 q.1) (by omega) fun O d w' h => ?_
    refine ⟨V'.length, by omega, V', some q, ys ++ [q.1], rfl, by simp, ?_, by rw [List.flatMap_append]; simpa using h⟩
    refine (List.Perm.trans ?_ hpm)
    rw [List.append_assoc]
    exact List.Perm.append_left ys (hp.map Prod.fst).symm
theorem seen_ok {p : Nat} {H : Hst} (h : St c w (blk p 68 (hst H) :: L)) {Q : Value → World → Prop}
    (hk : ∀ w', St c w' (blk p 68 (hst H) :: L) → Q (.agg #[.int .i64 H.kTaken, .int .i64 H.kUnsealed, .int .i64 H.kOutside, .int .i64 H.kChallenged, .int .i64 H.kLimited, .int .i64 H.kRemoved, .int .i64 H.kMalformed, .int .i64 H.kUnknown, .int .i64 H.kRefused, .int .i64 H.kBegun]) w') : CALL PG 23 [.pointer (some ⟨p, 0, none⟩)] w Q := by
  refine call23 ?_
  unfold N23
  refine h.allocZ fun q w' h => nilc ?_
  refine h.rdGo (B := p) 0 10 ?_
  (repeat (first | apply Exists.intro (α := Int) | apply Exists.intro (α := Bool) | apply Exists.intro (α := ByteArray) | (apply Exists.intro (α := Option Addr); apply Exists.intro (α := Nat); apply Exists.intro (α := Nat)) | apply Exists.intro (α := Option Addr) | apply Exists.intro (α := Value)))
  refine ⟨rfl, ?_⟩
  refine h.stG (B := q) fun w' h => ?_
  refine h.rdG (B := q) ?_
  (repeat (first | apply Exists.intro (α := Int) | apply Exists.intro (α := Bool) | apply Exists.intro (α := ByteArray) | (apply Exists.intro (α := Option Addr); apply Exists.intro (α := Nat); apply Exists.intro (α := Nat)) | apply Exists.intro (α := Option Addr) | apply Exists.intro (α := Value)))
  refine ⟨rfl, ?_⟩
  exact hk _ h.drop
abbrev szc (a b d e f g : Int) : List Value := [.int .i64 a, .int .i64 b, .int .i64 d, .int .i64 e, .int .i64 f, .int .i64 g]
theorem add_ok {x q : Nat} {X : Cn} {K : Kb} {a b d e f g : Int} (h : St c w (blk q 89 (szc a b d e f g) :: coB x X K L)) (ok : KbOk K) (hb : (0 ≤ e ∧ e ≤ 1000000000) ∧ (0 ≤ f ∧ f ≤ 1000000000) ∧ (0 ≤ g ∧ g ≤ 1000000000)) (hf : X.flowsN ≤ 1000000) {Q : Value → World → Prop}
    (hk : ∀ w', St c w' (blk q 89 (szc a b d (e + X.flowsN) (f + K.yN) (g + (K.rN + K.qN))) :: coB x X K L) → Q (.tuple #[]) w') : CALL PG 40 [.pointer (some ⟨x, 0, none⟩), .pointer (some ⟨q, 0, none⟩)] w Q := by
  obtain ⟨h1, h2, h3, h4, h5, h6, h7⟩ := ok
  refine call40 ?_
  unfold N40
  refine cinfo_ok (h.sub (show Sub _ (coB x X K (blk q 89 (szc a b d e f g) :: L)) from (.cons (.tail .head) (.cons (.tail .head) (.cons (.tail .head) (.cons (.tail .head) (.cons (.tail .head) (.cons (.tail .head) (.cons .head ((Sub.same _))))))))))) ⟨h1, h2, h3, h4, h5, h6, h7⟩ fun w' h => ?_
  (repeat (first | apply Exists.intro (α := Int) | apply Exists.intro (α := Bool) | apply Exists.intro (α := ByteArray) | (apply Exists.intro (α := Option Addr); apply Exists.intro (α := Nat); apply Exists.intro (α := Nat)) | apply Exists.intro (α := Option Addr) | apply Exists.intro (α := Value)))
  refine ⟨rfl, ?_⟩
  refine h.allocZ fun q2 w' h => ?_
  refine h.stG (B := q2) fun w' h => ?_
  refine h.rdI (B := q) 3 (h.rdI (B := q2) 15 ?_)
  refine h.st (B := q) 3 fun w' h => ?_
  refine h.rdI (B := q) 4 (h.rdI (B := q2) 16 ?_)
  refine h.st (B := q) 4 fun w' h => ?_
  refine h.rdI (B := q) 5 (h.rdI (B := q2) 17 ?_)
  refine h.st (B := q) 5 fun w' h => ?_
  have e1 : IntKind.i64.wrap (e + (infOf X K).flows) = e + X.flowsN := wrap_i64 (n := e + X.flowsN) (by omega) (by omega)
  have e2 : IntKind.i64.wrap (f + (infOf X K).under) = f + K.yN := wrap_i64 (n := f + K.yN) (by omega) (by omega)
  have e3 : IntKind.i64.wrap (g + (infOf X K).held) = g + (K.rN + K.qN) := wrap_i64 (n := g + (K.rN + K.qN)) (by omega) (by omega)
  have h := h.sub (show Sub _ (blk q 89 (szc a b d (IntKind.i64.wrap (e + (infOf X K).flows)) (IntKind.i64.wrap (f + (infOf X K).under)) (IntKind.i64.wrap (g + (infOf X K).held))) :: coB x X K L) from (.cons .head (.cons (.tail .head) (.cons (.tail .head) (.cons (.tail .head) (.cons (.tail .head) (.cons (.tail .head) (.cons (.tail .head) ((Sub.same _).more)))))))))
  rw [e1, e2, e3] at h
  exact hk _ h
end
end Go.Br

/- What the code of some functions says, as the core reads it; each reading is checked by the kernel. -/
set_option linter.unusedVariables false
set_option maxRecDepth 100000
namespace Go.Br
open Go Go.Proofs

/-- brougham/audit.Text -/
def N13 (h : Option Addr) (w : World) (Q : Value → World → Prop) : Prop :=
 CALL PG 18 [(.pointer h)] w fun v w1 =>
 ∃ (x13 : Option Addr) (x13N x13C : Nat), v = (.slice x13 x13N x13C) ∧
 (∃ I : Nat → ByteArray → Int → World → Prop,
 (∃ m, I m (ByteArray.mk #[]) (0 : Int) w1) ∧
 (∀ m1 (out : ByteArray) (x15 : Int) (w2 : World), I m1 out x15 w2 → (IFB (decide (x15 < (x13N : Int)))
 (IDX x13 x13N x15 fun a17 =>
 RDI PG (loadVar 3 (Addr.add a17 (Int.toNat x15 * 1))) .i64 w2 fun x18 =>
 LETI x18 fun n =>
 CALL PG 19 [(.pointer h), (.int .i64 n)] w2 fun v1 w3 =>
 ∃ x22 : Int, ∃ x22v1 : Int, ∃ x22v2 : Int, ∃ x22v3 : Int, ∃ x22v4 : Int, ∃ x22v5 : Int, ∃ x22v6 : Int, ∃ x22v7 : Int, ∃ x22v8 : Int, ∃ x22v9 : Int, ∃ x22v10 : Int, ∃ x22v11 : Int, ∃ x22v12 : Bool, ∃ x22v13 : Bool, ∃ x22v14 : Int, ∃ x22v15 : Int, ∃ x22v16 : Int, ∃ x22v17 : Int, ∃ x22v18 : Bool, v1 = (.tuple #[(.agg #[(.int .i64 x22), (.int .i64 x22v1), (.int .i64 x22v2), (.int .u64 x22v3), (.int .u64 x22v4), (.int .i64 x22v5), (.int .u16 x22v6), (.int .u16 x22v7), (.int .u64 x22v8), (.int .u64 x22v9), (.int .u64 x22v10), (.int .u64 x22v11), (.bool x22v12), (.bool x22v13), (.int .i64 x22v14), (.int .i64 x22v15), (.int .i64 x22v16), (.int .i64 x22v17)]), (.bool x22v18)]) ∧
 (RUNA PG (Instr.alloc 32 true (.tuple #[])) w3 fun a6 w4 =>
 RUNU PG (storeVar 32 a6 (.agg #[(.int .i64 x22), (.int .i64 x22v1), (.int .i64 x22v2), (.int .u64 x22v3), (.int .u64 x22v4), (.int .i64 x22v5), (.int .u16 x22v6), (.int .u16 x22v7), (.int .u64 x22v8), (.int .u64 x22v9), (.int .u64 x22v10), (.int .u64 x22v11), (.bool x22v12), (.bool x22v13), (.int .i64 x22v14), (.int .i64 x22v15), (.int .i64 x22v16), (.int .i64 x22v17)])) w4 fun w5 =>
 LETB x22v18 fun x =>
 ∃ R : ByteArray → World → Prop,
 (RDI PG (loadVar 24 (Addr.add a6 2)) .i64 w5 fun x26 =>
 IFB (x26 == (2 : Int))
 (R (ByteArray.mk #[115, 101, 114, 118, 101, 114]) w5)
 (R (ByteArray.mk #[99, 108, 105, 101, 110, 116]) w5)) ∧
 (∀ (role : ByteArray) (w6 : World), R role w6 → (∃ S : World → Prop, S (w6.drew) ∧
 (RDSI PG (loadVar 22 (Addr.add a6 0)) .i64 S fun x31 =>
 RDSI PG (loadVar 28 (Addr.add (Addr.add a6 5) 1)) .u16 S fun x36 =>
 RDSI PG (loadVar 28 (Addr.add (Addr.add a6 5) 2)) .u16 S fun x41 =>
 RDSI PG (loadVar 3 (Addr.add (Addr.add a6 5) 0)) .i64 S fun x46 =>
 CALL PG 20 [(.int .i64 n)] (w6.drew) fun v2 w7 =>
 ∃ x29 : ByteArray, v2 = (.string x29) ∧
 (∃ S1 : World → Prop, (∀ x, S1 x → S x) ∧ S1 w7 ∧
 (CALL PG 21 [(.int .i64 x31)] w7 fun v3 w8 =>
 ∃ x32 : ByteArray, v3 = (.string x32) ∧
 (∃ S2 : World → Prop, (∀ x, S2 x → S1 x) ∧ S2 w8 ∧
 (CALL PG 20 [(.int .i64 (IntKind.i64.wrap x36))] w8 fun v4 w9 =>
 ∃ x38 : ByteArray, v4 = (.string x38) ∧
 (∃ S3 : World → Prop, (∀ x, S3 x → S2 x) ∧ S3 w9 ∧
 (CALL PG 20 [(.int .i64 (IntKind.i64.wrap x41))] w9 fun v5 w10 =>
 ∃ x43 : ByteArray, v5 = (.string x43) ∧
 (∃ S4 : World → Prop, (∀ x, S4 x → S3 x) ∧ S4 w10 ∧
 (CALL PG 20 [(.int .i64 x46)] w10 fun v6 w11 =>
 ∃ x47 : ByteArray, v6 = (.string x47) ∧
 (RUNL PG (Instr.buildSlice 75 6 #[(0, (.string x29)), (1, (.string x32)), (2, (.string role)), (3, (.string x38)), (4, (.string x43)), (5, (.string x47))]) w11 fun x48 x48N x48C w12 =>
 RDI PG (loadVar 25 (Addr.add a6 8)) .u64 w12 fun x50 =>
 RDI PG (loadVar 25 (Addr.add a6 9)) .u64 w12 fun x52 =>
 RDI PG (loadVar 25 (Addr.add a6 10)) .u64 w12 fun x54 =>
 RDI PG (loadVar 25 (Addr.add a6 11)) .u64 w12 fun x56 =>
 RUNL PG (Instr.buildSlice 76 4 #[(0, (.int .u64 x50)), (1, (.int .u64 x52)), (2, (.int .u64 x54)), (3, (.int .u64 x56))]) w12 fun x57 x57N x57C w13 =>
 ∃ I1 : Nat → Option Addr → Nat → Nat → Int → World → Prop,
 (∃ m2, I1 m2 x48 x48N x48C (0 : Int) w13) ∧
 (∀ m3 (wv : Option Addr) (wN wC : Nat) (x59 : Int) (w14 : World), I1 m3 wv wN wC x59 w14 → (IFB (decide (x59 < (x57N : Int)))
 (IDX x57 x57N x59 fun a61 =>
 RDI PG (loadVar 25 (Addr.add a61 (Int.toNat x59 * 1))) .u64 w14 fun x62 =>
 LETI x62 fun k =>
 CALL PG 20 [(.int .i64 (IntKind.i64.wrap k))] w14 fun v7 w15 =>
 ∃ x66 : ByteArray, v7 = (.string x66) ∧
 (RUNL PG (Instr.buildSlice 75 1 #[(0, (.string x66))]) w15 fun x67 x67N x67C w16 =>
 RUNL PG (Builtin.append_ #[75, 75] 75 #[(.slice wv wN wC), (.slice x67 x67N x67C)]) w16 fun x68 x68N x68C w17 =>
 ∃ m4, m4 < m3 ∧ I1 m4 x68 x68N x68C (IntKind.i64.wrap (x59 + (1 : Int))) w17))
 (RDB PG (loadVar 4 (Addr.add a6 12)) w14 fun x71 =>
 IFB x71
 (RUNL PG (Instr.buildSlice 75 1 #[(0, (.string (ByteArray.mk #[99, 108, 111, 115, 101, 100])))]) w14 fun x73 x73N x73C w18 =>
 RUNL PG (Builtin.append_ #[75, 75] 75 #[(.slice wv wN wC), (.slice x73 x73N x73C)]) w18 fun x74 x74N x74C w19 =>
 RDB PG (loadVar 4 (Addr.add a6 13)) w19 fun x76 =>
 IFB x76
 (RUNL PG (Instr.buildSlice 75 1 #[(0, (.string (ByteArray.mk #[101, 110, 100, 101, 100])))]) w19 fun x78 x78N x78C w20 =>
 RUNL PG (Builtin.append_ #[75, 75] 75 #[(.slice x74 x74N x74C), (.slice x78 x78N x78C)]) w20 fun x79 x79N x79C w21 =>
 CALL PG 22 [(.slice x79 x79N x79C)] w21 fun v8 w22 =>
 ∃ x82 : ByteArray, v8 = (.string x82) ∧
 (NEED (((x82.size + (ByteArray.mk #[10]).size : Nat) : Int) ≤ IntKind.i64.max)
 (NEED (((out.size + (x82 ++ (ByteArray.mk #[10])).size : Nat) : Int) ≤ IntKind.i64.max)
 (LETS (out ++ (x82 ++ (ByteArray.mk #[10]))) fun out1 =>
 ∃ m5, m5 < m1 ∧ I m5 out1 (IntKind.i64.wrap (x15 + (1 : Int))) w22))))
 (CALL PG 22 [(.slice x74 x74N x74C)] w19 fun v9 w23 =>
 ∃ x82v1 : ByteArray, v9 = (.string x82v1) ∧
 (NEED (((x82v1.size + (ByteArray.mk #[10]).size : Nat) : Int) ≤ IntKind.i64.max)
 (NEED (((out.size + (x82v1 ++ (ByteArray.mk #[10])).size : Nat) : Int) ≤ IntKind.i64.max)
 (LETS (out ++ (x82v1 ++ (ByteArray.mk #[10]))) fun out2 =>
 ∃ m6, m6 < m1 ∧ I m6 out2 (IntKind.i64.wrap (x15 + (1 : Int))) w23)))))
 (RDB PG (loadVar 4 (Addr.add a6 13)) w14 fun x76v1 =>
 IFB x76v1
 (RUNL PG (Instr.buildSlice 75 1 #[(0, (.string (ByteArray.mk #[101, 110, 100, 101, 100])))]) w14 fun x78v1 x78N1 x78C1 w24 =>
 RUNL PG (Builtin.append_ #[75, 75] 75 #[(.slice wv wN wC), (.slice x78v1 x78N1 x78C1)]) w24 fun x79v1 x79N1 x79C1 w25 =>
 CALL PG 22 [(.slice x79v1 x79N1 x79C1)] w25 fun v10 w26 =>
 ∃ x82v2 : ByteArray, v10 = (.string x82v2) ∧
 (NEED (((x82v2.size + (ByteArray.mk #[10]).size : Nat) : Int) ≤ IntKind.i64.max)
 (NEED (((out.size + (x82v2 ++ (ByteArray.mk #[10])).size : Nat) : Int) ≤ IntKind.i64.max)
 (LETS (out ++ (x82v2 ++ (ByteArray.mk #[10]))) fun out3 =>
 ∃ m7, m7 < m1 ∧ I m7 out3 (IntKind.i64.wrap (x15 + (1 : Int))) w26))))
 (CALL PG 22 [(.slice wv wN wC)] w14 fun v11 w27 =>
 ∃ x82v3 : ByteArray, v11 = (.string x82v3) ∧
 (NEED (((x82v3.size + (ByteArray.mk #[10]).size : Nat) : Int) ≤ IntKind.i64.max)
 (NEED (((out.size + (x82v3 ++ (ByteArray.mk #[10])).size : Nat) : Int) ≤ IntKind.i64.max)
 (LETS (out ++ (x82v3 ++ (ByteArray.mk #[10]))) fun out4 =>
 ∃ m8, m8 < m1 ∧ I m8 out4 (IntKind.i64.wrap (x15 + (1 : Int))) w27))))))))))))))))))))))
 (LETS out fun x2 =>
 Q (.string x2) w2))))
theorem eq13 : ∀ (h : Option Addr) (w : World) (Q : Value → World → Prop), vcF PG TB Tryz.f13 (.s .nil (.s .nil (.s (.s .nil (.u (.loop [(3, 9), (15, 3)] (.s .nil (.s .nil (.s (.u (.s .nil (.s .nil (.s .nil (.cut [(8, 9)] .nil (.s .nil (.s (.s .nil (.u (.loop [(9, 75), (59, 3)] .nil))) .nil))))))) .nil)))))) .nil))) [(.pointer h)] w Q = N13 h w Q := by intros; kernel_rfl
theorem call13 {h : Option Addr} {w : World} {Q : Value → World → Prop} (hN : N13 h w Q) : CALL PG 13 [(.pointer h)] w Q := calls_vc tabOk Tryz.func13 (by rw [eq13]; exact hN)

/-- brougham/audit.Tally -/
def N14 (h : Option Addr) (w : World) (Q : Value → World → Prop) : Prop :=
 CALL PG 23 [(.pointer h)] w fun v w1 =>
 ∃ x8 : Int, ∃ x8v1 : Int, ∃ x8v2 : Int, ∃ x8v3 : Int, ∃ x8v4 : Int, ∃ x8v5 : Int, ∃ x8v6 : Int, ∃ x8v7 : Int, ∃ x8v8 : Int, ∃ x8v9 : Int, v = (.agg #[(.int .i64 x8), (.int .i64 x8v1), (.int .i64 x8v2), (.int .i64 x8v3), (.int .i64 x8v4), (.int .i64 x8v5), (.int .i64 x8v6), (.int .i64 x8v7), (.int .i64 x8v8), (.int .i64 x8v9)]) ∧
 (RUNA PG (Instr.alloc 64 true (.tuple #[])) w1 fun a3 w2 =>
 RUNU PG (storeVar 64 a3 (.agg #[(.int .i64 x8), (.int .i64 x8v1), (.int .i64 x8v2), (.int .i64 x8v3), (.int .i64 x8v4), (.int .i64 x8v5), (.int .i64 x8v6), (.int .i64 x8v7), (.int .i64 x8v8), (.int .i64 x8v9)])) w2 fun w3 =>
 RDI PG (loadVar 3 (Addr.add a3 0)) .i64 w3 fun x10 =>
 RDI PG (loadVar 3 (Addr.add a3 9)) .i64 w3 fun x12 =>
 RDI PG (loadVar 3 (Addr.add a3 1)) .i64 w3 fun x14 =>
 RDI PG (loadVar 3 (Addr.add a3 2)) .i64 w3 fun x16 =>
 RDI PG (loadVar 3 (Addr.add a3 3)) .i64 w3 fun x18 =>
 RDI PG (loadVar 3 (Addr.add a3 4)) .i64 w3 fun x20 =>
 RDI PG (loadVar 3 (Addr.add a3 5)) .i64 w3 fun x22 =>
 RDI PG (loadVar 3 (Addr.add a3 6)) .i64 w3 fun x24 =>
 RDI PG (loadVar 3 (Addr.add a3 7)) .i64 w3 fun x26 =>
 RDI PG (loadVar 3 (Addr.add a3 8)) .i64 w3 fun x28 =>
 RUNL PG (Instr.buildSlice 69 10 #[(0, (.int .i64 x10)), (1, (.int .i64 x12)), (2, (.int .i64 x14)), (3, (.int .i64 x16)), (4, (.int .i64 x18)), (5, (.int .i64 x20)), (6, (.int .i64 x22)), (7, (.int .i64 x24)), (8, (.int .i64 x26)), (9, (.int .i64 x28))]) w3 fun x29 x29N x29C w4 =>
 ∃ I : Nat → Option Addr → Nat → Nat → Int → World → Prop,
 (∃ m, I m none 0 0 (0 : Int) w4) ∧
 (∀ m1 (wv : Option Addr) (wN wC : Nat) (x31 : Int) (w5 : World), I m1 wv wN wC x31 w5 → (IFB (decide (x31 < (x29N : Int)))
 (IDX x29 x29N x31 fun a33 =>
 RDI PG (loadVar 3 (Addr.add a33 (Int.toNat x31 * 1))) .i64 w5 fun x34 =>
 LETI x34 fun n =>
 CALL PG 20 [(.int .i64 n)] w5 fun v1 w6 =>
 ∃ x37 : ByteArray, v1 = (.string x37) ∧
 (RUNL PG (Instr.buildSlice 75 1 #[(0, (.string x37))]) w6 fun x38 x38N x38C w7 =>
 RUNL PG (Builtin.append_ #[75, 75] 75 #[(.slice wv wN wC), (.slice x38 x38N x38C)]) w7 fun x39 x39N x39C w8 =>
 ∃ m2, m2 < m1 ∧ I m2 x39 x39N x39C (IntKind.i64.wrap (x31 + (1 : Int))) w8))
 (CALL PG 22 [(.slice wv wN wC)] w5 fun v2 w9 =>
 ∃ x42 : ByteArray, v2 = (.string x42) ∧
 (LETS x42 fun x2 =>
 Q (.string x2) w9)))))
theorem eq14 : ∀ (h : Option Addr) (w : World) (Q : Value → World → Prop), vcF PG TB Tryz.f14 (.s .nil (.s .nil (.s .nil (.s (.s .nil (.u (.loop [(4, 75), (31, 3)] .nil))) .nil)))) [(.pointer h)] w Q = N14 h w Q := by intros; kernel_rfl
theorem call14 {h : Option Addr} {w : World} {Q : Value → World → Prop} (hN : N14 h w Q) : CALL PG 14 [(.pointer h)] w Q := calls_vc tabOk Tryz.func14 (by rw [eq14]; exact hN)

/-- brougham/audit.state -/
def N21 (s : Int) (w : World) (Q : Value → World → Prop) : Prop :=
 RD PG (Instr.build 96 #[(0, (.string (ByteArray.mk #[]))), (1, (.string (ByteArray.mk #[111, 112, 101, 110, 105, 110, 103]))), (2, (.string (ByteArray.mk #[104, 97, 108, 102]))), (3, (.string (ByteArray.mk #[117, 112]))), (4, (.string (ByteArray.mk #[100, 101, 97, 100])))]) w fun v =>
 ∃ x4 : Value, v = x4 ∧
 (RUNA PG (Instr.alloc 96 true (.tuple #[])) w fun a3 w1 =>
 RUNU PG (storeVar 96 a3 x4) w1 fun w2 =>
 IFB (decide (s < (1 : Int)))
 (Q (.string (ByteArray.mk #[110, 111, 110, 101])) w2)
 (IFB (decide (s > (4 : Int)))
 (Q (.string (ByteArray.mk #[110, 111, 110, 101])) w2)
 (NEED (0 ≤ s ∧ s < ((5 : Nat) : Int))
 (RDT PG (loadVar 9 (Addr.add a3 (Int.toNat s * 1))) w2 fun x13 =>
 LETS x13 fun x2 =>
 Q (.string x2) w2))))
theorem eq21 : ∀ (s : Int) (w : World) (Q : Value → World → Prop), vcF PG TB Tryz.f21 .nil [(.int .i64 s)] w Q = N21 s w Q := by intros; kernel_rfl
theorem call21 {s : Int} {w : World} {Q : Value → World → Prop} (hN : N21 s w Q) : CALL PG 21 [(.int .i64 s)] w Q := calls_vc tabOk Tryz.func21 (by rw [eq21]; exact hN)

/-- (*brougham/host.Host).Sizes -/
def N30 (h : Option Addr) (w : World) (Q : Value → World → Prop) : Prop :=
 RUNA PG (Instr.alloc 89 true (.tuple #[])) w fun a2 w1 =>
 ∃ S : World → Prop, S (w1.drew) ∧
 (NILC h fun a12 =>
 RDSL PG (loadVar 65 (Addr.add a12 28)) S fun x14 x14N x14C =>
 NILC h fun a17 =>
 RDS PG (loadVar 62 (Addr.add a17 29)) S fun v =>
 ∃ x19 : Value, v = x19 ∧
 (RDSI PG (Builtin.len_ #[62] 3 #[x19]) .i64 S fun x20 =>
 RDS PG (Instr.build 89 #[(0, (.int .i64 (x14N : Int))), (2, (.int .i64 x20))]) S fun v1 =>
 ∃ x21 : Int, ∃ x21v1 : Int, ∃ x21v2 : Int, ∃ x21v3 : Int, ∃ x21v4 : Int, ∃ x21v5 : Int, v1 = (.agg #[(.int .i64 x21), (.int .i64 x21v1), (.int .i64 x21v2), (.int .i64 x21v3), (.int .i64 x21v4), (.int .i64 x21v5)]) ∧
 (RUNA PG (Instr.alloc 89 true (.tuple #[])) (w1.drew) fun a3 w2 =>
 ∃ S1 : World → Prop, (∀ x, S1 x → S x) ∧ S1 w2 ∧
 (RUNU PG (storeVar 89 a3 (.agg #[(.int .i64 x21), (.int .i64 x21v1), (.int .i64 x21v2), (.int .i64 x21v3), (.int .i64 x21v4), (.int .i64 x21v5)])) w2 fun w3 =>
 NILC h fun a24 =>
 RD PG (loadVar 62 (Addr.add a24 29)) w3 fun v2 =>
 ∃ x26 : Value, v2 = x26 ∧
 (RUNA PG (Instr.range 62 x26) w3 fun a27 w4 =>
 ∃ I : Nat → World → Prop,
 (∃ m, I m w4) ∧
 (∀ m1  (w5 : World), I m1 w5 → (RUN PG (Instr.next (.pointer (some a27)) false 0) w5 fun v3 w6 =>
 ∃ more : Bool, ∃ xs : List Value, v3 = (.tuple ⟨(.bool more) :: xs⟩) ∧
 (IFB more
 (RD PG (Instr.entry (.pointer (some a27))) w6 fun v4 =>
 ∃ k x : Value, v4 = (.tuple #[k, x]) ∧
 (∃ val : Option Addr, x = (.pointer val) ∧
 (CALLV PG (.func (.func 40) #[] #[(.pointer (some a3))]) [(.pointer val)] w6 fun v5 w7 =>
 v5 = (.tuple #[]) ∧
 (∃ m2, m2 < m1 ∧ I m2 w7))))
 (NILC h fun a36 =>
 RDL PG (loadVar 65 (Addr.add a36 28)) w6 fun x38 x38N x38C =>
 ∃ I1 : Nat → Int → World → Prop,
 (∃ m3, I1 m3 (0 : Int) w6) ∧
 (∀ m4 (x40 : Int) (w8 : World), I1 m4 x40 w8 → (IFB (decide (x40 < (x38N : Int)))
 (IDX x38 x38N x40 fun a42 =>
 RDP PG (loadVar 80 (Addr.add a42 (Int.toNat x40 * 1))) w8 fun x43 =>
 RDI PG (loadVar 3 (Addr.add a3 1)) .i64 (w8.drew) fun x45 =>
 NILC x43 fun a47 =>
 RDL PG (loadVar 98 (Addr.add a47 1)) (w8.drew) fun x49 x49N x49C =>
 RUNU PG (storeVar 3 (Addr.add a3 1) (.int .i64 (IntKind.i64.wrap (x45 + (x49N : Int))))) (w8.drew) fun w9 =>
 NILC x43 fun a54 =>
 RDL PG (loadVar 98 (Addr.add a54 1)) w9 fun x56 x56N x56C =>
 ∃ I2 : Nat → Int → World → Prop,
 (∃ m5, I2 m5 (0 : Int) w9) ∧
 (∀ m6 (x58 : Int) (w10 : World), I2 m6 x58 w10 → (IFB (decide (x58 < (x56N : Int)))
 (IDX x56 x56N x58 fun a60 =>
 RDP PG (loadVar 84 (Addr.add a60 (Int.toNat x58 * 1))) w10 fun x61 =>
 CALLV PG (.func (.func 40) #[] #[(.pointer (some a3))]) [(.pointer x61)] w10 fun v6 w11 =>
 v6 = (.tuple #[]) ∧
 (∃ m7, m7 < m6 ∧ I2 m7 (IntKind.i64.wrap (x58 + (1 : Int))) w11))
 (∃ m8, m8 < m4 ∧ I1 m8 (IntKind.i64.wrap (x40 + (1 : Int))) w10))))
 (RD PG (loadVar 89 a3) w8 fun v7 =>
 ∃ x67 : Int, ∃ x67v1 : Int, ∃ x67v2 : Int, ∃ x67v3 : Int, ∃ x67v4 : Int, ∃ x67v5 : Int, v7 = (.agg #[(.int .i64 x67), (.int .i64 x67v1), (.int .i64 x67v2), (.int .i64 x67v3), (.int .i64 x67v4), (.int .i64 x67v5)]) ∧
 (RUNU PG (storeVar 89 a2 (.agg #[(.int .i64 x67), (.int .i64 x67v1), (.int .i64 x67v2), (.int .i64 x67v3), (.int .i64 x67v4), (.int .i64 x67v5)])) w8 fun w12 =>
 RD PG (loadVar 89 a2) w12 fun v9 =>
 ∃ r : Int, ∃ r1 : Int, ∃ r2 : Int, ∃ r3 : Int, ∃ r4 : Int, ∃ r5 : Int, v9 = (.agg #[(.int .i64 r), (.int .i64 r1), (.int .i64 r2), (.int .i64 r3), (.int .i64 r4), (.int .i64 r5)]) ∧
 (Q (.agg #[(.int .i64 r), (.int .i64 r1), (.int .i64 r2), (.int .i64 r3), (.int .i64 r4), (.int .i64 r5)]) w12))))))))))))))
theorem eq30 : ∀ (h : Option Addr) (w : World) (Q : Value → World → Prop), vcF PG TB Tryz.f30 (.s .nil (.s .nil (.s .nil (.s (.s .nil (.u (.loop [] .nil))) (.s (.s .nil (.u (.loop [(40, 3)] (.s .nil (.s .nil (.s (.u (.s .nil (.s .nil (.s .nil (.u (.loop [(58, 3)] .nil)))))) .nil)))))) .nil))))) [(.pointer h)] w Q = N30 h w Q := by intros; kernel_rfl
theorem call30 {h : Option Addr} {w : World} {Q : Value → World → Prop} (hN : N30 h w Q) : CALL PG 30 [(.pointer h)] w Q := calls_vc tabOk Tryz.func30 (by rw [eq30]; exact hN)

end Go.Br

/- Hosts as texts, and within their bounds: the fixed facts of layer 27. -/
set_option linter.unusedVariables false
set_option linter.unusedSimpArgs false
set_option linter.unnecessarySimpa false
namespace Go.Br
open Go
instance biAuditTexta : Zro PG 32 18 128 (.agg #[.int .i64 0, .int .i64 0, .int .i64 0, .int .u64 0, .int .u64 0, .int .i64 0, .int .u16 0, .int .u16 0, .int .u64 0, .int .u64 0, .int .u64 0, .int .u64 0, .bool false, .bool false, .int .i64 0, .int .i64 0, .int .i64 0, .int .i64 0]) := ⟨tiOf (by kernel_rfl)⟩
instance biAuditTextb : Zro PG 64 10 80 (.agg #[.int .i64 0, .int .i64 0, .int .i64 0, .int .i64 0, .int .i64 0, .int .i64 0, .int .i64 0, .int .i64 0, .int .i64 0, .int .i64 0]) := ⟨tiOf (by kernel_rfl)⟩
instance biAuditTextc : Zro PG 96 5 80 (.agg #[.string (ByteArray.mk #[]), .string (ByteArray.mk #[]), .string (ByteArray.mk #[]), .string (ByteArray.mk #[]), .string (ByteArray.mk #[])]) := ⟨tiOf (by kernel_rfl)⟩
instance biAuditTextd (x0 : Int) (x1 : Int) : Bld PG (Instr.build 89 #[(0, .int .i64 x0), (2, .int .i64 x1)]) (.agg #[.int .i64 x0, .int .i64 0, .int .i64 x1, .int .i64 0, .int .i64 0, .int .i64 0]) := ⟨fun w => by kernel_rfl⟩
instance biAuditTexte : Zro PG 89 6 48 (.agg #[.int .i64 0, .int .i64 0, .int .i64 0, .int .i64 0, .int .i64 0, .int .i64 0]) := ⟨tiOf (by kernel_rfl)⟩
attribute [local irreducible] Addr.add RD RDS RUN RUNU NILC LETB CALL CALLX CALLV

def uv8 (x : Int) : List Value := [.int .u64 x]
theorem uv8_length (x : Int) : (uv8 x).length = 1 := rfl
theorem lineL_map (xs : List (List UInt8)) : lineL (xs.map strOf) = Lib.join (xs.filter fun l => !(l == [])) [32] := by
  unfold lineL joinL
  rw [List.filter_map, List.map_map]
  have e1 : ((fun s : ByteArray => !(s.toList == [])) ∘ strOf) = fun l => !(l == []) := by
    funext l
    simp [strOf_toList]
  have e2 : ((fun s : ByteArray => s.data.toList) ∘ strOf) = id := by
    funext l
    simp [strOf]
  rw [e1, e2, List.map_id]
theorem d0 : digsI 0 = [48] := digs_lt (by decide)
theorem d1 : digsI 1 = [49] := digs_lt (by decide)
theorem d5 : digsI 5 = [53] := digs_lt (by decide)
theorem d80 : digsI 80 = [56, 48] := by
  show digs 80 = _
  rw [digs_ge (by decide), digs_lt (by decide)]
  rfl
section
variable {c : Ctx} {w : World} {L R : List SA}
theorem St.mlenS {P : Program} {t kt e ty : TypeId} {r : Nat} {E : List (Int × Value)} {K : Int → Prop} (hp : Pick (mp r E) L R) (hk : K (E.length : Int)) (ht : P.underlying t = some (.map kt e)) : RDSI P (Builtin.len_ #[t] ty #[.map (some r)]) .i64 (fun w => St c w L) K := by
  unfold RDSI
  refine RDS.of (v := .int .i64 (E.length : Int)) (fun w h => ?_) ⟨_, rfl, hk⟩
  obtain ⟨es, clock, h1, h2, h3⟩ := (h.mapO hp).1
  have he : es.size = E.length := by
    have := congrArg List.length h2
    simpa using this
  rw [← he]
  simp [Builtin.len_, run_und ht, run_getMap h1]
  rfl
theorem state1_ok (h : St c w L) {Q : Value → World → Prop} (hk : ∀ w', St c w' L → Q (.string (strOf [111, 112, 101, 110, 105, 110, 103])) w') : CALL PG 21 [.int .i64 1] w Q := by
  refine call21 ?_
  unfold N21
  have e : (Instr.build 96 #[(0, (.string (ByteArray.mk #[]))), (1, (.string (ByteArray.mk #[111, 112, 101, 110, 105, 110, 103]))), (2, (.string (ByteArray.mk #[104, 97, 108, 102]))), (3, (.string (ByteArray.mk #[117, 112]))), (4, (.string (ByteArray.mk #[100, 101, 97, 100])))]).run PG w =
      .ok (.agg ([.string (ByteArray.mk #[]), .string (ByteArray.mk #[111, 112, 101, 110, 105, 110, 103]), .string (ByteArray.mk #[104, 97, 108, 102]), .string (ByteArray.mk #[117, 112]), .string (ByteArray.mk #[100, 101, 97, 100])] : List Value).toArray) w := by kernel_rfl
  refine RD.of e ⟨_, rfl, ?_⟩
  refine h.allocZ fun q w' h => ?_
  refine h.stG (B := q) fun w' h => ?_
  refine ifdf (by decide) (ifdf (by decide) ⟨by decide, ?_⟩)
  refine h.rdT (B := q) 1 (lets rfl ?_)
  exact hk _ h.drop
theorem text0_ok {p r : Nat} {H : Hst} (h : St c w (blk p 68 (hst { H with conns := r }) :: mp r [] :: L)) {Q : Value → World → Prop} (hk : ∀ w', St c w' (blk p 68 (hst { H with conns := r }) :: mp r [] :: L) → Q (.string (ByteArray.mk #[])) w') : CALL PG 13 [.pointer (some ⟨p, 0, none⟩)] w Q := by
  refine call13 ?_
  unfold N13
  refine handles_ok h (by decide) fun O d C w' _ hC h => ?_
  have : C = [] := by simpa using hC
  subst this
  (repeat (first | apply Exists.intro (α := Int) | apply Exists.intro (α := Bool) | apply Exists.intro (α := ByteArray) | (apply Exists.intro (α := Option Addr); apply Exists.intro (α := Nat); apply Exists.intro (α := Nat)) | apply Exists.intro (α := Option Addr) | apply Exists.intro (α := Value)))
  refine ⟨rfl, ?_⟩
  refine ⟨fun m o x w => m = 0 ∧ o = ByteArray.mk #[] ∧ x = 0 ∧ St c w (blk p 68 (hst { H with conns := r }) :: mp r [] :: L), ⟨_, rfl, rfl, rfl, h.drop⟩, ?_⟩
  clear h
  rintro m o x w' ⟨rfl, rfl, rfl, h⟩
  exact ifdf (by decide) (lets rfl (hk _ h))
/-- A host with one connection that is asked for. -/
theorem text1_ok {p x r : Nat} {H : Hst} {n : Int} {X : Cn} {K : Kb} (h : St c w (blk p 68 (hst { H with conns := r }) :: mp r [(n, .pointer (some ⟨x, 0, none⟩))] :: coB x X K L)) (ok : KbOk K) (hn : 0 ≤ n ∧ n ≤ 1000) (h1 : X.state = 1) (h2 : X.role = 1) (h3 : K.oc = false) (h4 : K.ik = false)
    (h5 : 0 ≤ X.firstLocal ∧ X.firstLocal ≤ 65535) (h6 : 0 ≤ X.firstRemote ∧ X.firstRemote ≤ 65535) (h7 : 0 ≤ X.firstPath ∧ X.firstPath ≤ 65535) (h8 : K.ob ≤ 1000) (h9 : K.ib ≤ 1000)
    (hTl : (lineL (([digsI n, [111, 112, 101, 110, 105, 110, 103], [99, 108, 105, 101, 110, 116], digsI X.firstLocal, digsI X.firstRemote, digsI X.firstPath, digsI (K.ob + K.rl), digsI K.ob, digsI (K.ib + K.ql), digsI K.ib] : List (List UInt8)).map strOf)).length ≤ 1000) {Q : Value → World → Prop}
    (hk : ∀ w', St c w' (blk p 68 (hst { H with conns := r }) :: mp r [(n, .pointer (some ⟨x, 0, none⟩))] :: coB x X K L) →
      Q (.string (strOf (lineL (([digsI n, [111, 112, 101, 110, 105, 110, 103], [99, 108, 105, 101, 110, 116], digsI X.firstLocal, digsI X.firstRemote, digsI X.firstPath, digsI (K.ob + K.rl), digsI K.ob, digsI (K.ib + K.ql), digsI K.ib] : List (List UInt8)).map strOf) ++ [10]))) w') :
    CALL PG 13 [.pointer (some ⟨p, 0, none⟩)] w Q := by
  have ok' := ok
  obtain ⟨o1, o2, o3, o4, o5, o6, o7⟩ := ok
  refine call13 ?_
  unfold N13
  refine handles_ok h (by simp) fun O d C w' _ hC h => ?_
  have : C = [n] := by simpa using hC
  subst this
  (repeat (first | apply Exists.intro (α := Int) | apply Exists.intro (α := Bool) | apply Exists.intro (α := ByteArray) | (apply Exists.intro (α := Option Addr); apply Exists.intro (α := Nat); apply Exists.intro (α := Nat)) | apply Exists.intro (α := Option Addr) | apply Exists.intro (α := Value)))
  refine ⟨rfl, ?_⟩
  generalize hT : lineL (([digsI n, [111, 112, 101, 110, 105, 110, 103], [99, 108, 105, 101, 110, 116], digsI X.firstLocal, digsI X.firstRemote, digsI X.firstPath, digsI (K.ob + K.rl), digsI K.ob, digsI (K.ib + K.ql), digsI K.ib] : List (List UInt8)).map strOf) = T at hk hTl
  refine ⟨fun m o y w => ((m = 1 ∧ o = ByteArray.mk #[] ∧ y = 0) ∨ (m = 0 ∧ o = strOf (T ++ [10]) ∧ y = 1)) ∧ St c w (own 3 1 O 1 d (([n] : List Int).flatMap iv) :: blk p 68 (hst { H with conns := r }) :: mp r [(n, .pointer (some ⟨x, 0, none⟩))] :: coB x X K L), ⟨_, .inl ⟨rfl, rfl, rfl⟩, h⟩, ?_⟩
  clear h
  rintro m o y w' ⟨⟨rfl, rfl, rfl⟩ | ⟨rfl, rfl, rfl⟩, h⟩
  rotate_left
  · exact ifdf (by show ¬ ((1 : Int) < 1); decide) (lets rfl (hk _ h.drop))
  refine ifdt (by show (0 : Int) < 1; decide) ?_
  have rd : RdIn (own 3 1 O 1 d (([n] : List Int).flatMap iv) :: blk p 68 (hst { H with conns := r }) :: mp r [(n, .pointer (some ⟨x, 0, none⟩))] :: coB x X K L) O (([n] : List Int).flatMap iv) := RdIn.own .head
  refine h.ix (z := 0) (i := 0) rd rfl (fun a ha => ?_) (by show 0 < 1; decide)
  have h0 := h
  subst ha
  refine h.rdWI (i := 0) rd rfl (leti rfl ?_)
  refine hinfo_ok (h.sub (show Sub _ (blk p 68 (hst { H with conns := r }) :: mp r [(n, .pointer (some ⟨x, 0, none⟩))] :: coB x X K (own 3 1 (some a) 1 d (([n] : List Int).flatMap iv) :: L)) from (.cons (.tail .head) (.cons (.tail .head) (.cons (.tail .head) (.cons (.tail .head) (.cons (.tail .head) (.cons (.tail .head) (.cons (.tail .head) (.cons (.tail .head) (.cons .head ((Sub.same _))))))))))))) (by simp [mget, mgo]) ok' fun w' h => ?_
  (repeat (first | apply Exists.intro (α := Int) | apply Exists.intro (α := Bool) | apply Exists.intro (α := ByteArray) | (apply Exists.intro (α := Option Addr); apply Exists.intro (α := Nat); apply Exists.intro (α := Nat)) | apply Exists.intro (α := Option Addr) | apply Exists.intro (α := Value)))
  refine ⟨rfl, ?_⟩
  refine h.allocZ fun q w' h => ?_
  refine h.stG (B := q) fun w' h => letb rfl ?_
  have h : St c w' (blk q 32 (inf (infOf X K)) :: blk p 68 (hst { H with conns := r }) :: mp r [(n, .pointer (some ⟨x, 0, none⟩))] :: coB x X K (own 3 1 (some a) 1 d (([n] : List Int).flatMap iv) :: L)) := h
  refine ⟨fun o w => o = strOf [99, 108, 105, 101, 110, 116] ∧ St c w (blk q 32 (inf (infOf X K)) :: blk p 68 (hst { H with conns := r }) :: mp r [(n, .pointer (some ⟨x, 0, none⟩))] :: coB x X K (own 3 1 (some a) 1 d (([n] : List Int).flatMap iv) :: L)), ?_, ?_⟩
  · refine h.rdI (B := q) 2 ?_
    exact iff_ (by show (X.role == 2) = false; rw [h2]; rfl) ⟨rfl, h⟩
  clear h
  rintro _ w' ⟨rfl, h⟩
  have h := h.drew
  refine ⟨fun w => St c w [blk q 32 (inf (infOf X K))], h.sub (.cons .head (.nil)), ?_⟩
  refine St.rdsI (B := q) 0 (St.rdsI2 (B := q) 5 1 (St.rdsI2 (B := q) 5 2 (St.rdsI2 (B := q) 5 0 ?_)))
  refine text_ok h (by omega) fun w' h => ?_
  (repeat (first | apply Exists.intro (α := Int) | apply Exists.intro (α := Bool) | apply Exists.intro (α := ByteArray) | (apply Exists.intro (α := Option Addr); apply Exists.intro (α := Nat); apply Exists.intro (α := Nat)) | apply Exists.intro (α := Option Addr) | apply Exists.intro (α := Value)))
  refine ⟨rfl, ?_⟩
  refine ⟨_, fun _ h => h, h.sub (.cons .head (.nil)), ?_⟩
  rw [show (infOf X K).state = 1 from h1]
  refine state1_ok h fun w' h => ?_
  (repeat (first | apply Exists.intro (α := Int) | apply Exists.intro (α := Bool) | apply Exists.intro (α := ByteArray) | (apply Exists.intro (α := Option Addr); apply Exists.intro (α := Nat); apply Exists.intro (α := Nat)) | apply Exists.intro (α := Option Addr) | apply Exists.intro (α := Value)))
  refine ⟨rfl, ?_⟩
  refine ⟨_, fun _ h => h, h.sub (.cons .head (.nil)), ?_⟩
  rw [show IntKind.i64.wrap (infOf X K).firstLocal = X.firstLocal from wrap_i64 (n := X.firstLocal) (by omega) (by omega), show IntKind.i64.wrap (infOf X K).firstRemote = X.firstRemote from wrap_i64 (n := X.firstRemote) (by omega) (by omega)]
  refine text_ok h (by omega) fun w' h => ?_
  (repeat (first | apply Exists.intro (α := Int) | apply Exists.intro (α := Bool) | apply Exists.intro (α := ByteArray) | (apply Exists.intro (α := Option Addr); apply Exists.intro (α := Nat); apply Exists.intro (α := Nat)) | apply Exists.intro (α := Option Addr) | apply Exists.intro (α := Value)))
  refine ⟨rfl, ?_⟩
  refine ⟨_, fun _ h => h, h.sub (.cons .head (.nil)), ?_⟩
  refine text_ok h (by omega) fun w' h => ?_
  (repeat (first | apply Exists.intro (α := Int) | apply Exists.intro (α := Bool) | apply Exists.intro (α := ByteArray) | (apply Exists.intro (α := Option Addr); apply Exists.intro (α := Nat); apply Exists.intro (α := Nat)) | apply Exists.intro (α := Option Addr) | apply Exists.intro (α := Value)))
  refine ⟨rfl, ?_⟩
  refine ⟨_, fun _ h => h, h.sub (.cons .head (.nil)), ?_⟩
  refine text_ok h (show X.firstPath ≤ _ by omega) fun w' h => ?_
  (repeat (first | apply Exists.intro (α := Int) | apply Exists.intro (α := Bool) | apply Exists.intro (α := ByteArray) | (apply Exists.intro (α := Option Addr); apply Exists.intro (α := Nat); apply Exists.intro (α := Nat)) | apply Exists.intro (α := Option Addr) | apply Exists.intro (α := Value)))
  refine ⟨rfl, ?_⟩
  refine h.lit (n := 6) 9 1 ((([digsI n, [111, 112, 101, 110, 105, 110, 103], [99, 108, 105, 101, 110, 116], digsI X.firstLocal, digsI X.firstRemote, digsI X.firstPath] : List (List UInt8)).map strOf).flatMap sv1) fun q2 w' h => ?_
  refine h.rdI (B := q) 8 (h.rdI (B := q) 9 (h.rdI (B := q) 10 (h.rdI (B := q) 11 ?_)))
  refine h.lit (n := 4) 25 1 (([K.ob + K.rl, K.ob, K.ib + K.ql, K.ib] : List Int).flatMap uv8) fun q3 w' h => ?_
  generalize hks : ([K.ob + K.rl, K.ob, K.ib + K.ql, K.ib] : List Int) = ks at h
  have hkb : ∀ k ∈ ks, 0 ≤ k ∧ k ≤ 10000000 := by subst hks; intro k hk; simp at hk; rcases hk with rfl | rfl | rfl | rfl <;> omega
  have hkl : ks.length = 4 := by subst hks; rfl
  generalize hys : ([digsI n, [111, 112, 101, 110, 105, 110, 103], [99, 108, 105, 101, 110, 116], digsI X.firstLocal, digsI X.firstRemote, digsI X.firstPath] : List (List UInt8)) = ys at h
  have hyl : ys.length = 6 := by subst hys; rfl
  have hT2 : lineL ((ys ++ ks.map digsI).map strOf) = T := by rw [← hT, ← hys, ← hks]; rfl
  have h := h.sub (show Sub _ (own 9 1 (some ⟨q2, 0, none⟩) 6 6 ((ys.map strOf).flatMap sv1) :: own 25 1 (some ⟨q3, 0, none⟩) 4 4 (ks.flatMap uv8) :: blk q 32 (inf (infOf X K)) :: own 3 1 (some a) 1 d (([n] : List Int).flatMap iv) :: blk p 68 (hst { H with conns := r }) :: mp r [(n, .pointer (some ⟨x, 0, none⟩))] :: coB x X K L) from (.cons (.tail .head) (.cons .head (.cons .head (.cons (.tail (.tail (.tail (.tail (.tail (.tail (.tail (.tail .head)))))))) (.cons .head (.cons .head (.cons .head (.cons .head (.cons .head (.cons .head (.cons .head (.cons .head ((Sub.same _)))))))))))))))
  refine ⟨fun m o oN oC y w => ∃ j : Nat, y = j ∧ m = 4 - j ∧ j ≤ 4 ∧ oN = 6 + j ∧ St c w (own 9 1 o oN oC (((ys ++ (ks.take j).map digsI).map strOf).flatMap sv1) :: own 25 1 (some ⟨q3, 0, none⟩) 4 4 (ks.flatMap uv8) :: blk q 32 (inf (infOf X K)) :: own 3 1 (some a) 1 d (([n] : List Int).flatMap iv) :: blk p 68 (hst { H with conns := r }) :: mp r [(n, .pointer (some ⟨x, 0, none⟩))] :: coB x X K L), ⟨_, 0, rfl, rfl, by decide, rfl, by simpa using h⟩, ?_⟩
  clear h
  rintro m o oN oC y w' ⟨j, rfl, rfl, hj, rfl, h⟩
  by_cases hjl : j < 4
  · refine ifdt (by omega) ?_
    have rd : RdIn (own 9 1 o (6 + j) oC (((ys ++ (ks.take j).map digsI).map strOf).flatMap sv1) :: own 25 1 (some ⟨q3, 0, none⟩) 4 4 (ks.flatMap uv8) :: blk q 32 (inf (infOf X K)) :: own 3 1 (some a) 1 d (([n] : List Int).flatMap iv) :: blk p 68 (hst { H with conns := r }) :: mp r [(n, .pointer (some ⟨x, 0, none⟩))] :: coB x X K L) (some ⟨q3, 0, none⟩) (ks.flatMap uv8) := RdIn.own (.tail .head)
    obtain ⟨k, hk1⟩ : ∃ k, ks[j]? = some k := ⟨_, List.getElem?_eq_getElem (by omega)⟩
    have hk2 := hkb k (List.mem_of_getElem? hk1)
    refine h.ix (z := 0) rd hk1 (fun b hb => ?_) (by omega)
    injection hb with hb
    subst hb
    refine h.rdWI rd hk1 (leti rfl ?_)
    rw [wrap_i64 (n := k) (by omega) (by omega)]
    refine text_ok h (by omega) fun w' h => ?_
    (repeat (first | apply Exists.intro (α := Int) | apply Exists.intro (α := Bool) | apply Exists.intro (α := ByteArray) | (apply Exists.intro (α := Option Addr); apply Exists.intro (α := Nat); apply Exists.intro (α := Nat)) | apply Exists.intro (α := Option Addr) | apply Exists.intro (α := Value)))
    refine ⟨rfl, ?_⟩
    refine h.app1 huStrsJ tiStrJ (sv1 (strOf (digsI k))) .head (sv1_flat1 _) (by omega) fun O4 d4 w' h => ?_
    refine ⟨4 - (j + 1), by omega, j + 1, by rw [wrap_i64 (by omega) (by omega)]; rfl, rfl, by omega, by omega, ?_⟩
    have e : (ks.take (j + 1)).map digsI = (ks.take j).map digsI ++ [digsI k] := by rw [List.take_add_one, hk1]; simp
    rw [e, ← List.append_assoc, List.map_append, List.flatMap_append]
    simpa [Nat.add_assoc] using h
  obtain rfl : j = 4 := by omega
  refine ifdf (by decide) ?_
  have e4 : ks.take 4 = ks := by rw [← hkl, List.take_length]
  rw [e4] at h
  refine h.rdB (B := q) 12 (iff_ h3 ?_)
  refine h.rdB (B := q) 13 (iff_ (by show (K.ik && (K.ib + K.ql == K.ie)) = false; rw [h4]; rfl) ?_)
  have hxl : ((ys ++ ks.map digsI).map strOf).length = 6 + 4 := by simp [hyl, hkl]
  rw [← hxl]
  have rd : RdIn (own 9 1 o (6 + 4) oC (((ys ++ ks.map digsI).map strOf).flatMap sv1) :: own 25 1 (some ⟨q3, 0, none⟩) 4 4 (ks.flatMap uv8) :: blk q 32 (inf (infOf X K)) :: own 3 1 (some a) 1 d (([n] : List Int).flatMap iv) :: blk p 68 (hst { H with conns := r }) :: mp r [(n, .pointer (some ⟨x, 0, none⟩))] :: coB x X K L) o (((ys ++ ks.map digsI).map strOf).flatMap sv1) := RdIn.own .head
  refine line_ok h rd (by omega) (by rw [hT2]; omega) fun w' h => ?_
  (repeat (first | apply Exists.intro (α := Int) | apply Exists.intro (α := Bool) | apply Exists.intro (α := ByteArray) | (apply Exists.intro (α := Option Addr); apply Exists.intro (α := Nat); apply Exists.intro (α := Nat)) | apply Exists.intro (α := Option Addr) | apply Exists.intro (α := Value)))
  refine ⟨rfl, ?_⟩
  rw [hT2]
  have e10 : (ByteArray.mk #[10]) = strOf [10] := rfl
  have e0 : (ByteArray.mk #[]) = strOf [] := rfl
  have mx : IntKind.i64.max = 9223372036854775807 := by decide
  rw [e10, e0, strOf_append, strOf_append]
  simp only [strOf_size, List.nil_append]
  rw [mx]
  refine ⟨by simp only [List.length_cons, List.length_nil]; omega, by simp only [List.length_append, List.length_cons, List.length_nil]; omega, lets rfl ⟨0, by decide, .inr ⟨rfl, rfl, by rw [wrap_i64 (by decide) (by decide)]; rfl⟩, ?_⟩⟩
  exact h.sub (.cons (.tail (.tail (.tail .head))) (.cons (.tail (.tail (.tail .head))) (.cons (.tail (.tail (.tail .head))) (.cons (.tail (.tail (.tail .head))) (.cons (.tail (.tail (.tail .head))) (.cons (.tail (.tail (.tail .head))) (.cons (.tail (.tail (.tail .head))) (.cons (.tail (.tail (.tail .head))) ((Sub.same _).more.more.more)))))))))
theorem tally0_ok {p : Nat} {H : Hst} (h : St c w (blk p 68 (hst H) :: L)) (h0 : [H.kTaken, H.kBegun, H.kUnsealed, H.kOutside, H.kChallenged, H.kLimited, H.kRemoved, H.kMalformed, H.kUnknown, H.kRefused] = List.replicate 10 0) {Q : Value → World → Prop}
    (hk : ∀ w', St c w' (blk p 68 (hst H) :: L) → Q (.string (strOf (lineL ((List.replicate 10 ([48] : List UInt8)).map strOf)))) w') : CALL PG 14 [.pointer (some ⟨p, 0, none⟩)] w Q := by
  refine call14 ?_
  unfold N14
  refine seen_ok h fun w' h => ?_
  (repeat (first | apply Exists.intro (α := Int) | apply Exists.intro (α := Bool) | apply Exists.intro (α := ByteArray) | (apply Exists.intro (α := Option Addr); apply Exists.intro (α := Nat); apply Exists.intro (α := Nat)) | apply Exists.intro (α := Option Addr) | apply Exists.intro (α := Value)))
  refine ⟨rfl, ?_⟩
  refine h.allocZ fun q w' h => ?_
  refine h.stG (B := q) fun w' h => ?_
  refine h.rdI (B := q) 0 (h.rdI (B := q) 9 (h.rdI (B := q) 1 (h.rdI (B := q) 2 (h.rdI (B := q) 3 (h.rdI (B := q) 4 (h.rdI (B := q) 5 (h.rdI (B := q) 6 (h.rdI (B := q) 7 (h.rdI (B := q) 8 ?_)))))))))
  refine h.lit (n := 10) 3 1 (([H.kTaken, H.kBegun, H.kUnsealed, H.kOutside, H.kChallenged, H.kLimited, H.kRemoved, H.kMalformed, H.kUnknown, H.kRefused] : List Int).flatMap iv) fun q2 w' h => ?_
  rw [h0] at h
  have h := h.addOwnNil 9 1
  have h := h.sub (show Sub _ (own 9 1 none 0 0 [] :: own 3 1 (some ⟨q2, 0, none⟩) 10 10 ((List.replicate 10 (0 : Int)).flatMap iv) :: blk p 68 (hst H) :: L) from (.cons .head (.cons .head (.cons (.tail .head) ((Sub.same _).more)))))
  refine ⟨fun m o oN oC y w => ∃ j : Nat, y = j ∧ m = 10 - j ∧ j ≤ 10 ∧ j = oN ∧ St c w (own 9 1 o oN oC (((List.replicate j ([48] : List UInt8)).map strOf).flatMap sv1) :: own 3 1 (some ⟨q2, 0, none⟩) 10 10 ((List.replicate 10 (0 : Int)).flatMap iv) :: blk p 68 (hst H) :: L), ⟨_, 0, rfl, rfl, by decide, rfl, h⟩, ?_⟩
  clear h
  rintro m o oN oC y w' ⟨j, rfl, rfl, hj, rfl, h⟩
  by_cases hjl : j < 10
  · refine ifdt (by omega) ?_
    have rd : RdIn (own 9 1 o j oC (((List.replicate j ([48] : List UInt8)).map strOf).flatMap sv1) :: own 3 1 (some ⟨q2, 0, none⟩) 10 10 ((List.replicate 10 (0 : Int)).flatMap iv) :: blk p 68 (hst H) :: L) (some ⟨q2, 0, none⟩) ((List.replicate 10 (0 : Int)).flatMap iv) := RdIn.own (.tail .head)
    have hk1 : (List.replicate 10 (0 : Int))[j]? = some 0 := by rw [List.getElem?_replicate, if_pos hjl]
    refine h.ix (z := 0) rd hk1 (fun b hb => ?_) (by omega)
    injection hb with hb
    subst hb
    refine h.rdWI rd hk1 (leti rfl ?_)
    refine text_ok h (by decide) fun w' h => ?_
    (repeat (first | apply Exists.intro (α := Int) | apply Exists.intro (α := Bool) | apply Exists.intro (α := ByteArray) | (apply Exists.intro (α := Option Addr); apply Exists.intro (α := Nat); apply Exists.intro (α := Nat)) | apply Exists.intro (α := Option Addr) | apply Exists.intro (α := Value)))
    refine ⟨rfl, ?_⟩
    rw [d0]
    refine h.app1 huStrsJ tiStrJ (sv1 (strOf [48])) .head (sv1_flat1 _) (by omega) fun O4 d4 w' h => ?_
    refine ⟨10 - (j + 1), by omega, j + 1, by rw [wrap_i64 (by omega) (by omega)]; rfl, rfl, by omega, rfl, ?_⟩
    rw [List.replicate_succ', List.map_append, List.flatMap_append]
    simpa using h
  obtain rfl : j = 10 := by omega
  refine ifdf (by decide) ?_
  have rd : RdIn (own 9 1 o 10 oC (((List.replicate 10 ([48] : List UInt8)).map strOf).flatMap sv1) :: own 3 1 (some ⟨q2, 0, none⟩) 10 10 ((List.replicate 10 (0 : Int)).flatMap iv) :: blk p 68 (hst H) :: L) o (((List.replicate 10 ([48] : List UInt8)).map strOf).flatMap sv1) := RdIn.own .head
  refine line_ok (xs := (List.replicate 10 ([48] : List UInt8)).map strOf) h rd (by decide) (by rw [lineL_map]; decide) fun w' h => ?_
  (repeat (first | apply Exists.intro (α := Int) | apply Exists.intro (α := Bool) | apply Exists.intro (α := ByteArray) | (apply Exists.intro (α := Option Addr); apply Exists.intro (α := Nat); apply Exists.intro (α := Nat)) | apply Exists.intro (α := Option Addr) | apply Exists.intro (α := Value)))
  refine ⟨rfl, ?_⟩
  exact lets rfl (hk _ (h.sub (.cons (.tail (.tail .head)) ((Sub.same _).more.more))))
/-- What a host without ports and with one connection keeps. -/
theorem sizes1_ok {p x r : Nat} {H : Hst} {n : Int} {X : Cn} {K : Kb} (h : St c w (blk p 68 (hst { H with conns := r, ports := none, portsN := 0, portsC := 0 }) :: mp r [(n, .pointer (some ⟨x, 0, none⟩))] :: coB x X K L)) (ok : KbOk K) (hf : X.flowsN ≤ 1000000) {Q : Value → World → Prop}
    (hk : ∀ w', St c w' (blk p 68 (hst { H with conns := r, ports := none, portsN := 0, portsC := 0 }) :: mp r [(n, .pointer (some ⟨x, 0, none⟩))] :: coB x X K L) → Q (.agg (szc 0 0 1 X.flowsN K.yN (K.rN + K.qN)).toArray) w') :
    CALL PG 30 [.pointer (some ⟨p, 0, none⟩)] w Q := by
  refine call30 ?_
  unfold N30
  refine h.allocZ fun q w' h => ?_
  have h := h.drew
  refine ⟨fun w => St c w [blk p 68 (hst { H with conns := r, ports := none, portsN := 0, portsC := 0 }), mp r [(n, .pointer (some ⟨x, 0, none⟩))]], h.sub (.cons (.tail .head) (.cons (.tail .head) (.nil))), nilc ?_⟩
  refine St.rdsL (B := p) 28 (nilc ?_)
  refine RDS.of (v := .map (some r)) (fun w h => ld 29 (h.blk .head) rfl (by kernel_rfl)) ⟨_, rfl, ?_⟩
  refine St.mlenS (.tail .head) ?_ huConns
  refine RDS.bld ?_
  (repeat (first | apply Exists.intro (α := Int) | apply Exists.intro (α := Bool) | apply Exists.intro (α := ByteArray) | (apply Exists.intro (α := Option Addr); apply Exists.intro (α := Nat); apply Exists.intro (α := Nat)) | apply Exists.intro (α := Option Addr) | apply Exists.intro (α := Value)))
  refine ⟨rfl, ?_⟩
  refine h.allocZ fun q2 w' h => ?_
  refine ⟨_, fun _ h => h, h.sub (.cons (.tail (.tail .head)) (.cons (.tail (.tail .head)) (.nil))), ?_⟩
  refine h.stG (B := q2) fun w' h => nilc ?_
  have h : St c w' (blk q2 89 (szc 0 0 1 0 0 0) :: blk q 89 (szc 0 0 0 0 0 0) :: blk p 68 (hst { H with conns := r, ports := none, portsN := 0, portsC := 0 }) :: mp r [(n, .pointer (some ⟨x, 0, none⟩))] :: coB x X K L) := h
  refine h.rdMp (B := p) 29 ⟨_, rfl, ?_⟩
  refine h.mrange (.tail (.tail (.tail .head))) (fun it w' h => ?_) huConns
  refine ⟨fun m w => ∃ V cur, ((V = [(n, .pointer (some ⟨x, 0, none⟩))] ∧ m = 1 ∧ St c w (mpr r it [(n, .pointer (some ⟨x, 0, none⟩))] V cur :: blk q2 89 (szc 0 0 1 0 0 0) :: blk q 89 (szc 0 0 0 0 0 0) :: blk p 68 (hst { H with conns := r, ports := none, portsN := 0, portsC := 0 }) :: coB x X K L)) ∨
    (V = [] ∧ m = 0 ∧ St c w (mpr r it [(n, .pointer (some ⟨x, 0, none⟩))] V cur :: blk q2 89 (szc 0 0 1 X.flowsN K.yN (K.rN + K.qN)) :: blk q 89 (szc 0 0 0 0 0 0) :: blk p 68 (hst { H with conns := r, ports := none, portsN := 0, portsC := 0 }) :: coB x X K L))), ⟨1, _, none, .inl ⟨rfl, rfl, h⟩⟩, ?_⟩
  clear h
  rintro m w' ⟨V, cur, ⟨rfl, rfl, h⟩ | ⟨rfl, rfl, h⟩⟩
  · refine h.mnext .head (fun w' hV0 h => by cases hV0) fun z V' w' hp h => ⟨true, [_, _], rfl, ift rfl ?_⟩
    obtain ⟨rfl, rfl⟩ : z = (n, .pointer (some ⟨x, 0, none⟩)) ∧ V' = [] := by
      have hl := hp.length_eq
      have : V' = [] := List.length_eq_zero_iff.1 (by simpa using hl.symm)
      subst this
      exact ⟨by simpa using hp.symm, rfl⟩
    refine h.mentry .head ⟨_, _, rfl, _, rfl, ?_⟩
    refine callvT tabOk (by kernel_rfl) (add_ok (h.sub (show Sub _ (blk q2 89 (szc 0 0 1 0 0 0) :: coB x X K (mpr r it [(n, .pointer (some ⟨x, 0, none⟩))] [] (some (n, .pointer (some ⟨x, 0, none⟩))) :: blk q 89 (szc 0 0 0 0 0 0) :: blk p 68 (hst { H with conns := r, ports := none, portsN := 0, portsC := 0 }) :: L)) from (.cons (.tail .head) (.cons (.tail (.tail (.tail .head))) (.cons (.tail (.tail (.tail .head))) (.cons (.tail (.tail (.tail .head))) (.cons (.tail (.tail (.tail .head))) (.cons (.tail (.tail (.tail .head))) (.cons (.tail (.tail (.tail .head))) (.cons .head (.cons .head (.cons .head ((Sub.same _)))))))))))))) ok (by decide) hf fun w' h => ⟨rfl, ?_⟩)
    rw [Int.zero_add, Int.zero_add, Int.zero_add] at h
    exact ⟨0, by decide, [], _, .inr ⟨rfl, rfl, h.sub (.cons (.tail (.tail (.tail (.tail (.tail (.tail (.tail .head))))))) (.cons .head (.cons (.tail (.tail (.tail (.tail (.tail (.tail .head)))))) (.cons (.tail (.tail (.tail (.tail (.tail (.tail .head)))))) (.cons .head (.cons .head (.cons .head (.cons .head (.cons .head (.cons .head ((Sub.same _))))))))))))⟩⟩
  · refine h.mnext .head (fun w' hV0 h => ⟨false, [], rfl, iff_ rfl (nilc ?_)⟩) fun z V' w' hp h => by simp at hp
    have h := h.mend
    refine h.rdL (B := p) 28 ?_
    refine ⟨fun m y w => y = 0 ∧ St c w (mp r [(n, .pointer (some ⟨x, 0, none⟩))] :: blk q2 89 (szc 0 0 1 X.flowsN K.yN (K.rN + K.qN)) :: blk q 89 (szc 0 0 0 0 0 0) :: blk p 68 (hst { H with conns := r, ports := none, portsN := 0, portsC := 0 }) :: coB x X K L), ⟨0, rfl, h⟩, ?_⟩
    clear h
    rintro m _ w' ⟨rfl, h⟩
    refine ifdf (by show ¬ ((0 : Int) < 0); decide) ?_
    refine h.rdG (B := q2) ?_
    (repeat (first | apply Exists.intro (α := Int) | apply Exists.intro (α := Bool) | apply Exists.intro (α := ByteArray) | (apply Exists.intro (α := Option Addr); apply Exists.intro (α := Nat); apply Exists.intro (α := Nat)) | apply Exists.intro (α := Option Addr) | apply Exists.intro (α := Value)))
    refine ⟨rfl, ?_⟩
    refine h.stG (B := q) fun w' h => ?_
    refine h.rdG (B := q) ?_
    (repeat (first | apply Exists.intro (α := Int) | apply Exists.intro (α := Bool) | apply Exists.intro (α := ByteArray) | (apply Exists.intro (α := Option Addr); apply Exists.intro (α := Nat); apply Exists.intro (α := Nat)) | apply Exists.intro (α := Option Addr) | apply Exists.intro (α := Value)))
    refine ⟨rfl, ?_⟩
    exact hk _ (h.sub (.cons (.tail (.tail (.tail .head))) (.cons (.tail .head) (.cons (.tail (.tail .head)) (.cons (.tail (.tail .head)) (.cons (.tail (.tail .head)) (.cons (.tail (.tail .head)) (.cons (.tail (.tail .head)) (.cons (.tail (.tail .head)) ((Sub.same _).more.more))))))))))
end
end Go.Br
