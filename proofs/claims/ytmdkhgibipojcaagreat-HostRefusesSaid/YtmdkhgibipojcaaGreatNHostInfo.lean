/- What the code of some functions says, as the core reads it; each reading is checked by the kernel. -/
import Derived.Test.YtmdkhgibipojcaaGreatBrSeat
set_option linter.unusedVariables false
set_option maxRecDepth 100000
namespace Go.Br
open Go Go.Proofs

/-- (*brougham/host.Host).Seen -/
def N12 (h : Option Addr) (w : World) (Q : Value → World → Prop) : Prop :=
 RUNA PG (Instr.alloc 52 true (.tuple #[])) w fun a2 w1 =>
 NILC h fun a4 =>
 RD PG (loadVar 52 (Addr.add a4 0)) w1 fun v =>
 ∃ x6 : Int, ∃ x6v1 : Int, ∃ x6v2 : Int, ∃ x6v3 : Int, ∃ x6v4 : Int, ∃ x6v5 : Int, ∃ x6v6 : Int, ∃ x6v7 : Int, ∃ x6v8 : Int, ∃ x6v9 : Int, v = (.agg #[(.int .i64 x6), (.int .i64 x6v1), (.int .i64 x6v2), (.int .i64 x6v3), (.int .i64 x6v4), (.int .i64 x6v5), (.int .i64 x6v6), (.int .i64 x6v7), (.int .i64 x6v8), (.int .i64 x6v9)]) ∧
 (RUNU PG (storeVar 52 a2 (.agg #[(.int .i64 x6), (.int .i64 x6v1), (.int .i64 x6v2), (.int .i64 x6v3), (.int .i64 x6v4), (.int .i64 x6v5), (.int .i64 x6v6), (.int .i64 x6v7), (.int .i64 x6v8), (.int .i64 x6v9)])) w1 fun w2 =>
 RD PG (loadVar 52 a2) w2 fun v2 =>
 ∃ r : Int, ∃ r1 : Int, ∃ r2 : Int, ∃ r3 : Int, ∃ r4 : Int, ∃ r5 : Int, ∃ r6 : Int, ∃ r7 : Int, ∃ r8 : Int, ∃ r9 : Int, v2 = (.agg #[(.int .i64 r), (.int .i64 r1), (.int .i64 r2), (.int .i64 r3), (.int .i64 r4), (.int .i64 r5), (.int .i64 r6), (.int .i64 r7), (.int .i64 r8), (.int .i64 r9)]) ∧
 (Q (.agg #[(.int .i64 r), (.int .i64 r1), (.int .i64 r2), (.int .i64 r3), (.int .i64 r4), (.int .i64 r5), (.int .i64 r6), (.int .i64 r7), (.int .i64 r8), (.int .i64 r9)]) w2))
theorem eq12 : ∀ (h : Option Addr) (w : World) (Q : Value → World → Prop), vcF PG TB Tryz.f12 .nil [(.pointer h)] w Q = N12 h w Q := by intros; kernel_rfl
theorem call12 {h : Option Addr} {w : World} {Q : Value → World → Prop} (hN : N12 h w Q) : CALL PG 12 [(.pointer h)] w Q := calls_vc tabOk Tryz.func12 (by rw [eq12]; exact hN)

/-- (*brougham/host.Host).Sizes$1 -/
def N32 (c : Option Addr) (x1 : Addr) (w : World) (Q : Value → World → Prop) : Prop :=
 CALL PG 33 [(.pointer c)] w fun v w1 =>
 ∃ x5 : Int, ∃ x5v1 : Int, ∃ x5v2 : Int, ∃ x5v3 : Int, ∃ x5v4 : Int, ∃ x5v5 : Int, ∃ x5v6 : Int, ∃ x5v7 : Int, ∃ x5v8 : Int, ∃ x5v9 : Int, ∃ x5v10 : Int, ∃ x5v11 : Int, ∃ x5v12 : Bool, ∃ x5v13 : Bool, ∃ x5v14 : Int, ∃ x5v15 : Int, ∃ x5v16 : Int, ∃ x5v17 : Int, v = (.agg #[(.int .i64 x5), (.int .i64 x5v1), (.int .i64 x5v2), (.int .u64 x5v3), (.int .u64 x5v4), (.int .i64 x5v5), (.int .u16 x5v6), (.int .u16 x5v7), (.int .u64 x5v8), (.int .u64 x5v9), (.int .u64 x5v10), (.int .u64 x5v11), (.bool x5v12), (.bool x5v13), (.int .i64 x5v14), (.int .i64 x5v15), (.int .i64 x5v16), (.int .i64 x5v17)]) ∧
 (RUNA PG (Instr.alloc 104 true (.tuple #[])) w1 fun a3 w2 =>
 RUNU PG (storeVar 104 a3 (.agg #[(.int .i64 x5), (.int .i64 x5v1), (.int .i64 x5v2), (.int .u64 x5v3), (.int .u64 x5v4), (.int .i64 x5v5), (.int .u16 x5v6), (.int .u16 x5v7), (.int .u64 x5v8), (.int .u64 x5v9), (.int .u64 x5v10), (.int .u64 x5v11), (.bool x5v12), (.bool x5v13), (.int .i64 x5v14), (.int .i64 x5v15), (.int .i64 x5v16), (.int .i64 x5v17)])) w2 fun w3 =>
 RDI PG (loadVar 3 (Addr.add x1 3)) .i64 w3 fun x7 =>
 RDI PG (loadVar 3 (Addr.add a3 15)) .i64 w3 fun x9 =>
 RUNU PG (storeVar 3 (Addr.add x1 3) (.int .i64 (IntKind.i64.wrap (x7 + x9)))) w3 fun w4 =>
 RDI PG (loadVar 3 (Addr.add x1 4)) .i64 w4 fun x13 =>
 RDI PG (loadVar 3 (Addr.add a3 16)) .i64 w4 fun x15 =>
 RUNU PG (storeVar 3 (Addr.add x1 4) (.int .i64 (IntKind.i64.wrap (x13 + x15)))) w4 fun w5 =>
 RDI PG (loadVar 3 (Addr.add x1 5)) .i64 w5 fun x19 =>
 RDI PG (loadVar 3 (Addr.add a3 17)) .i64 w5 fun x21 =>
 RUNU PG (storeVar 3 (Addr.add x1 5) (.int .i64 (IntKind.i64.wrap (x19 + x21)))) w5 fun w6 =>
 Q (.tuple #[]) w6)
theorem eq32 : ∀ (c : Option Addr) (x1 : Addr) (w : World) (Q : Value → World → Prop), vcF PG TB Tryz.f32 .nil [(.pointer c), (.pointer (some x1))] w Q = N32 c x1 w Q := by intros; kernel_rfl
theorem call32 {c : Option Addr} {x1 : Addr} {w : World} {Q : Value → World → Prop} (hN : N32 c x1 w Q) : CALL PG 32 [(.pointer c), (.pointer (some x1))] w Q := calls_vc tabOk Tryz.func32 (by rw [eq32]; exact hN)

/-- (*brougham/conn.Conn).Info -/
def N33 (x : Option Addr) (w : World) (Q : Value → World → Prop) : Prop :=
 RUNA PG (Instr.alloc 104 true (.tuple #[])) w fun a2 w1 =>
 ∃ S : World → Prop, S (w1.drew) ∧
 (NILC x fun a4 =>
 RDSI PG (loadVar 100 (Addr.add a4 25)) .i64 S fun x6 =>
 NILC x fun a8 =>
 RDSI PG (loadVar 101 (Addr.add a8 26)) .i64 S fun x10 =>
 NILC x fun a12 =>
 RDSI PG (loadVar 102 (Addr.add a12 24)) .i64 S fun x14 =>
 NILC x fun a16 =>
 RDS PG (loadVar 27 (Addr.add (Addr.add a16 0) 0)) S fun v =>
 ∃ x19 : Int, ∃ x19v1 : Int, v = (.agg #[(.int .u64 x19), (.int .u64 x19v1)]) ∧
 (NILC x fun a21 =>
 RDS PG (loadVar 80 (Addr.add a21 30)) S fun v1 =>
 ∃ x23 : Int, ∃ x23v1 : Int, ∃ x23v2 : Int, v1 = (.agg #[(.int .i64 x23), (.int .u16 x23v1), (.int .u16 x23v2)]) ∧
 (NILC x fun a25 =>
 RDSP PG (loadVar 121 (Addr.add a25 35)) S fun x27 =>
 NILC x fun a30 =>
 RDSP PG (loadVar 121 (Addr.add a30 35)) S fun x32 =>
 NILC x fun a35 =>
 RDSP PG (loadVar 122 (Addr.add a35 36)) S fun x37 =>
 NILC x fun a40 =>
 RDSP PG (loadVar 122 (Addr.add a40 36)) S fun x42 =>
 NILC x fun a45 =>
 RDSP PG (loadVar 121 (Addr.add a45 35)) S fun x47 =>
 NILC x fun a50 =>
 RDSP PG (loadVar 122 (Addr.add a50 36)) S fun x52 =>
 NILC x fun a55 =>
 RDSI PG (loadVar 3 (Addr.add a55 45)) .i64 S fun x57 =>
 NILC x fun a59 =>
 RDSL PG (loadVar 120 (Addr.add a59 33)) S fun x61 x61N x61C =>
 NILC x fun a64 =>
 RDSP PG (loadVar 123 (Addr.add a64 37)) S fun x66 =>
 NILC x fun a69 =>
 RDSP PG (loadVar 121 (Addr.add a69 35)) S fun x71 =>
 NILC x71 fun a72 =>
 RDSP PG (loadVar 165 (Addr.add a72 0)) S fun x74 =>
 NILC x fun a77 =>
 RDSP PG (loadVar 122 (Addr.add a77 36)) S fun x79 =>
 NILC x79 fun a80 =>
 RDSP PG (loadVar 165 (Addr.add a80 0)) S fun x82 =>
 CALL PG 66 [(.pointer x27)] (w1.drew) fun v2 w2 =>
 ∃ x28 : Int, v2 = (.int .u64 x28) ∧
 (∃ S1 : World → Prop, (∀ x, S1 x → S x) ∧ S1 w2 ∧
 (CALL PG 67 [(.pointer x32)] w2 fun v3 w3 =>
 ∃ x33 : Int, v3 = (.int .u64 x33) ∧
 (∃ S2 : World → Prop, (∀ x, S2 x → S1 x) ∧ S2 w3 ∧
 (CALL PG 68 [(.pointer x37)] w3 fun v4 w4 =>
 ∃ x38 : Int, v4 = (.int .u64 x38) ∧
 (∃ S3 : World → Prop, (∀ x, S3 x → S2 x) ∧ S3 w4 ∧
 (CALL PG 69 [(.pointer x42)] w4 fun v5 w5 =>
 ∃ x43 : Int, v5 = (.int .u64 x43) ∧
 (∃ S4 : World → Prop, (∀ x, S4 x → S3 x) ∧ S4 w5 ∧
 (CALL PG 70 [(.pointer x47)] w5 fun v6 w6 =>
 ∃ x48 : Bool, v6 = (.bool x48) ∧
 (∃ S5 : World → Prop, (∀ x, S5 x → S4 x) ∧ S5 w6 ∧
 (CALL PG 71 [(.pointer x52)] w6 fun v7 w7 =>
 ∃ x53 : Bool, v7 = (.bool x53) ∧
 (∃ S6 : World → Prop, (∀ x, S6 x → S5 x) ∧ S6 w7 ∧
 (CALL PG 72 [(.pointer x66)] w7 fun v8 w8 =>
 ∃ x67 : Int, v8 = (.int .i64 x67) ∧
 (∃ S7 : World → Prop, (∀ x, S7 x → S6 x) ∧ S7 w8 ∧
 (CALL PG 73 [(.pointer x74)] w8 fun v9 w9 =>
 ∃ x75 : Int, v9 = (.int .i64 x75) ∧
 (∃ S8 : World → Prop, (∀ x, S8 x → S7 x) ∧ S8 w9 ∧
 (CALL PG 73 [(.pointer x82)] w9 fun v10 w10 =>
 ∃ x83 : Int, v10 = (.int .i64 x83) ∧
 (∃ S9 : World → Prop, (∀ x, S9 x → S8 x) ∧ S9 w10 ∧
 (RDS PG (Instr.build 104 #[(0, (.int .i64 x6)), (1, (.int .i64 x10)), (2, (.int .i64 x14)), (3, (.agg #[(.int .u64 x19), (.int .u64 x19v1)])), (4, (.agg #[(.int .i64 x23), (.int .u16 x23v1), (.int .u16 x23v2)])), (5, (.int .u64 x28)), (6, (.int .u64 x33)), (7, (.int .u64 x38)), (8, (.int .u64 x43)), (9, (.bool x48)), (10, (.bool x53)), (11, (.int .i64 x57)), (12, (.int .i64 (x61N : Int))), (13, (.int .i64 x67)), (14, (.int .i64 (IntKind.i64.wrap (x75 + x83))))]) S9 fun v11 =>
 ∃ x85 : Int, ∃ x85v1 : Int, ∃ x85v2 : Int, ∃ x85v3 : Int, ∃ x85v4 : Int, ∃ x85v5 : Int, ∃ x85v6 : Int, ∃ x85v7 : Int, ∃ x85v8 : Int, ∃ x85v9 : Int, ∃ x85v10 : Int, ∃ x85v11 : Int, ∃ x85v12 : Bool, ∃ x85v13 : Bool, ∃ x85v14 : Int, ∃ x85v15 : Int, ∃ x85v16 : Int, ∃ x85v17 : Int, v11 = (.agg #[(.int .i64 x85), (.int .i64 x85v1), (.int .i64 x85v2), (.int .u64 x85v3), (.int .u64 x85v4), (.int .i64 x85v5), (.int .u16 x85v6), (.int .u16 x85v7), (.int .u64 x85v8), (.int .u64 x85v9), (.int .u64 x85v10), (.int .u64 x85v11), (.bool x85v12), (.bool x85v13), (.int .i64 x85v14), (.int .i64 x85v15), (.int .i64 x85v16), (.int .i64 x85v17)]) ∧
 (RUNU PG (storeVar 104 a2 (.agg #[(.int .i64 x85), (.int .i64 x85v1), (.int .i64 x85v2), (.int .u64 x85v3), (.int .u64 x85v4), (.int .i64 x85v5), (.int .u16 x85v6), (.int .u16 x85v7), (.int .u64 x85v8), (.int .u64 x85v9), (.int .u64 x85v10), (.int .u64 x85v11), (.bool x85v12), (.bool x85v13), (.int .i64 x85v14), (.int .i64 x85v15), (.int .i64 x85v16), (.int .i64 x85v17)])) w10 fun w11 =>
 RD PG (loadVar 104 a2) w11 fun v13 =>
 ∃ r : Int, ∃ r1 : Int, ∃ r2 : Int, ∃ r3 : Int, ∃ r4 : Int, ∃ r5 : Int, ∃ r6 : Int, ∃ r7 : Int, ∃ r8 : Int, ∃ r9 : Int, ∃ r10 : Int, ∃ r11 : Int, ∃ r12 : Bool, ∃ r13 : Bool, ∃ r14 : Int, ∃ r15 : Int, ∃ r16 : Int, ∃ r17 : Int, v13 = (.agg #[(.int .i64 r), (.int .i64 r1), (.int .i64 r2), (.int .u64 r3), (.int .u64 r4), (.int .i64 r5), (.int .u16 r6), (.int .u16 r7), (.int .u64 r8), (.int .u64 r9), (.int .u64 r10), (.int .u64 r11), (.bool r12), (.bool r13), (.int .i64 r14), (.int .i64 r15), (.int .i64 r16), (.int .i64 r17)]) ∧
 (Q (.agg #[(.int .i64 r), (.int .i64 r1), (.int .i64 r2), (.int .u64 r3), (.int .u64 r4), (.int .i64 r5), (.int .u16 r6), (.int .u16 r7), (.int .u64 r8), (.int .u64 r9), (.int .u64 r10), (.int .u64 r11), (.bool r12), (.bool r13), (.int .i64 r14), (.int .i64 r15), (.int .i64 r16), (.int .i64 r17)]) w11)))))))))))))))))))))))
theorem eq33 : ∀ (x : Option Addr) (w : World) (Q : Value → World → Prop), vcF PG TB Tryz.f33 .nil [(.pointer x)] w Q = N33 x w Q := by intros; kernel_rfl
theorem call33 {x : Option Addr} {w : World} {Q : Value → World → Prop} (hN : N33 x w Q) : CALL PG 33 [(.pointer x)] w Q := calls_vc tabOk Tryz.func33 (by rw [eq33]; exact hN)

/-- (*brougham/host.Host).Handles -/
def N40 (h : Option Addr) (w : World) (Q : Value → World → Prop) : Prop :=
 NILC h fun a6 =>
 RD PG (loadVar 63 (Addr.add a6 29)) w fun v =>
 ∃ x8 : Value, v = x8 ∧
 (RUNA PG (Instr.range 63 x8) w fun a9 w1 =>
 ∃ I : Nat → Option Addr → Nat → Nat → World → Prop,
 (∃ m, I m none 0 0 w1) ∧
 (∀ m1 (out : Option Addr) (outN outC : Nat) (w2 : World), I m1 out outN outC w2 → (RUN PG (Instr.next (.pointer (some a9)) false 0) w2 fun v1 w3 =>
 ∃ more : Bool, ∃ xs : List Value, v1 = (.tuple ⟨(.bool more) :: xs⟩) ∧
 (IFB more
 (RD PG (Instr.entry (.pointer (some a9))) w3 fun v2 =>
 ∃ k x : Value, v2 = (.tuple #[k, x]) ∧
 (∃ key : Int, k = (.int .i64 key) ∧
 (LETI key fun n =>
 RUNL PG (Instr.buildSlice 71 1 #[(0, (.int .i64 n))]) w3 fun x16 x16N x16C w4 =>
 RUNL PG (Builtin.append_ #[71, 71] 71 #[(.slice out outN outC), (.slice x16 x16N x16C)]) w4 fun x17 x17N x17C w5 =>
 ∃ m2, m2 < m1 ∧ I m2 x17 x17N x17C w5)))
 (CALL PG 77 [(.slice out outN outC)] w3 fun v3 w6 =>
 v3 = (.tuple #[]) ∧
 (Q (.slice out outN outC) w6))))))
theorem eq40 : ∀ (h : Option Addr) (w : World) (Q : Value → World → Prop), vcF PG TB Tryz.f40 (.s .nil (.s .nil (.s (.s .nil (.u (.loop [(3, 71)] .nil))) .nil))) [(.pointer h)] w Q = N40 h w Q := by intros; kernel_rfl
theorem call40 {h : Option Addr} {w : World} {Q : Value → World → Prop} (hN : N40 h w Q) : CALL PG 40 [(.pointer h)] w Q := calls_vc tabOk Tryz.func40 (by rw [eq40]; exact hN)

/-- (*brougham/outlet.Outlet).End -/
def N66 (o : Option Addr) (w : World) (Q : Value → World → Prop) : Prop :=
 ∃ S : World → Prop, S (w.drew) ∧
 (NILC o fun a4 =>
 RDSI PG (loadVar 25 (Addr.add a4 1)) .u64 S fun x6 =>
 NILC o fun a8 =>
 RDSP PG (loadVar 165 (Addr.add a8 0)) S fun x10 =>
 CALL PG 110 [(.pointer x10)] (w.drew) fun v w1 =>
 ∃ x11 : Int, v = (.int .i64 x11) ∧
 (∃ S1 : World → Prop, (∀ x, S1 x → S x) ∧ S1 w1 ∧
 (LETI (IntKind.u64.wrap (x6 + (IntKind.u64.wrap x11))) fun x2 =>
 Q (.int .u64 x2) w1)))
theorem eq66 : ∀ (o : Option Addr) (w : World) (Q : Value → World → Prop), vcF PG TB Tryz.f66 .nil [(.pointer o)] w Q = N66 o w Q := by intros; kernel_rfl
theorem call66 {o : Option Addr} {w : World} {Q : Value → World → Prop} (hN : N66 o w Q) : CALL PG 66 [(.pointer o)] w Q := calls_vc tabOk Tryz.func66 (by rw [eq66]; exact hN)

/-- (*brougham/outlet.Outlet).Base -/
def N67 (o : Option Addr) (w : World) (Q : Value → World → Prop) : Prop :=
 NILC o fun a4 =>
 RDI PG (loadVar 25 (Addr.add a4 1)) .u64 w fun x6 =>
 LETI x6 fun x2 =>
 Q (.int .u64 x2) w
theorem eq67 : ∀ (o : Option Addr) (w : World) (Q : Value → World → Prop), vcF PG TB Tryz.f67 .nil [(.pointer o)] w Q = N67 o w Q := by intros; kernel_rfl
theorem call67 {o : Option Addr} {w : World} {Q : Value → World → Prop} (hN : N67 o w Q) : CALL PG 67 [(.pointer o)] w Q := calls_vc tabOk Tryz.func67 (by rw [eq67]; exact hN)

/-- (*brougham/inlet.Inlet).Next -/
def N68 (x : Option Addr) (w : World) (Q : Value → World → Prop) : Prop :=
 ∃ S : World → Prop, S (w.drew) ∧
 (NILC x fun a4 =>
 RDSI PG (loadVar 25 (Addr.add a4 2)) .u64 S fun x6 =>
 NILC x fun a8 =>
 RDSP PG (loadVar 165 (Addr.add a8 0)) S fun x10 =>
 CALL PG 110 [(.pointer x10)] (w.drew) fun v w1 =>
 ∃ x11 : Int, v = (.int .i64 x11) ∧
 (∃ S1 : World → Prop, (∀ x, S1 x → S x) ∧ S1 w1 ∧
 (LETI (IntKind.u64.wrap (x6 + (IntKind.u64.wrap x11))) fun x2 =>
 Q (.int .u64 x2) w1)))
theorem eq68 : ∀ (x : Option Addr) (w : World) (Q : Value → World → Prop), vcF PG TB Tryz.f68 .nil [(.pointer x)] w Q = N68 x w Q := by intros; kernel_rfl
theorem call68 {x : Option Addr} {w : World} {Q : Value → World → Prop} (hN : N68 x w Q) : CALL PG 68 [(.pointer x)] w Q := calls_vc tabOk Tryz.func68 (by rw [eq68]; exact hN)

/-- (*brougham/inlet.Inlet).Base -/
def N69 (x : Option Addr) (w : World) (Q : Value → World → Prop) : Prop :=
 NILC x fun a4 =>
 RDI PG (loadVar 25 (Addr.add a4 2)) .u64 w fun x6 =>
 LETI x6 fun x2 =>
 Q (.int .u64 x2) w
theorem eq69 : ∀ (x : Option Addr) (w : World) (Q : Value → World → Prop), vcF PG TB Tryz.f69 .nil [(.pointer x)] w Q = N69 x w Q := by intros; kernel_rfl
theorem call69 {x : Option Addr} {w : World} {Q : Value → World → Prop} (hN : N69 x w Q) : CALL PG 69 [(.pointer x)] w Q := calls_vc tabOk Tryz.func69 (by rw [eq69]; exact hN)

/-- (*brougham/outlet.Outlet).Closed -/
def N70 (o : Option Addr) (w : World) (Q : Value → World → Prop) : Prop :=
 NILC o fun a4 =>
 RDB PG (loadVar 4 (Addr.add a4 2)) w fun x6 =>
 LETB x6 fun x2 =>
 Q (.bool x2) w
theorem eq70 : ∀ (o : Option Addr) (w : World) (Q : Value → World → Prop), vcF PG TB Tryz.f70 .nil [(.pointer o)] w Q = N70 o w Q := by intros; kernel_rfl
theorem call70 {o : Option Addr} {w : World} {Q : Value → World → Prop} (hN : N70 o w Q) : CALL PG 70 [(.pointer o)] w Q := calls_vc tabOk Tryz.func70 (by rw [eq70]; exact hN)

/-- (*brougham/inlet.Inlet).Ended -/
def N71 (x : Option Addr) (w : World) (Q : Value → World → Prop) : Prop :=
 ∃ S : World → Prop, S (w.drew) ∧
 (NILC x fun a4 =>
 RDSB PG (loadVar 4 (Addr.add a4 4)) S fun x6 =>
 IFB x6
 (NILC x fun a11 =>
 RDSI PG (loadVar 25 (Addr.add a11 3)) .u64 S fun x13 =>
 CALL PG 68 [(.pointer x)] (w.drew) fun v w1 =>
 ∃ x9 : Int, v = (.int .u64 x9) ∧
 (∃ S1 : World → Prop, (∀ x, S1 x → S x) ∧ S1 w1 ∧
 (LETB (x9 == x13) fun x2 =>
 Q (.bool x2) w1)))
 (LETB false fun x2v1 =>
 Q (.bool x2v1) (w.drew)))
theorem eq71 : ∀ (x : Option Addr) (w : World) (Q : Value → World → Prop), vcF PG TB Tryz.f71 .nil [(.pointer x)] w Q = N71 x w Q := by intros; kernel_rfl
theorem call71 {x : Option Addr} {w : World} {Q : Value → World → Prop} (hN : N71 x w Q) : CALL PG 71 [(.pointer x)] w Q := calls_vc tabOk Tryz.func71 (by rw [eq71]; exact hN)

/-- (*brougham/flight.List).Len -/
def N72 (x : Option Addr) (w : World) (Q : Value → World → Prop) : Prop :=
 NILC x fun a4 =>
 RDL PG (loadVar 182 (Addr.add a4 1)) w fun x6 x6N x6C =>
 LETI (x6N : Int) fun x2 =>
 Q (.int .i64 x2) w
theorem eq72 : ∀ (x : Option Addr) (w : World) (Q : Value → World → Prop), vcF PG TB Tryz.f72 .nil [(.pointer x)] w Q = N72 x w Q := by intros; kernel_rfl
theorem call72 {x : Option Addr} {w : World} {Q : Value → World → Prop} (hN : N72 x w Q) : CALL PG 72 [(.pointer x)] w Q := calls_vc tabOk Tryz.func72 (by rw [eq72]; exact hN)

/-- (*brougham/ring.Ring).Size -/
def N73 (r : Option Addr) (w : World) (Q : Value → World → Prop) : Prop :=
 NILC r fun a4 =>
 RDL PG (loadVar 38 (Addr.add a4 0)) w fun x6 x6N x6C =>
 LETI (x6N : Int) fun x2 =>
 Q (.int .i64 x2) w
theorem eq73 : ∀ (r : Option Addr) (w : World) (Q : Value → World → Prop), vcF PG TB Tryz.f73 .nil [(.pointer r)] w Q = N73 r w Q := by intros; kernel_rfl
theorem call73 {r : Option Addr} {w : World} {Q : Value → World → Prop} (hN : N73 r w Q) : CALL PG 73 [(.pointer r)] w Q := calls_vc tabOk Tryz.func73 (by rw [eq73]; exact hN)

/-- (*brougham/ring.Ring).Len -/
def N110 (r : Option Addr) (w : World) (Q : Value → World → Prop) : Prop :=
 NILC r fun a4 =>
 RDI PG (loadVar 3 (Addr.add a4 2)) .i64 w fun x6 =>
 LETI x6 fun x2 =>
 Q (.int .i64 x2) w
theorem eq110 : ∀ (r : Option Addr) (w : World) (Q : Value → World → Prop), vcF PG TB Tryz.f110 .nil [(.pointer r)] w Q = N110 r w Q := by intros; kernel_rfl
theorem call110 {r : Option Addr} {w : World} {Q : Value → World → Prop} (hN : N110 r w Q) : CALL PG 110 [(.pointer r)] w Q := calls_vc tabOk Tryz.func110 (by rw [eq110]; exact hN)

end Go.Br
