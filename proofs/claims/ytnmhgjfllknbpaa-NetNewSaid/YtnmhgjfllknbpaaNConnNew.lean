/- What the code of some functions says, as the core reads it; each reading is checked by the kernel. -/
import Derived.Test.YtnmhgjfllknbpaaBrSeat
set_option linter.unusedVariables false
set_option maxRecDepth 100000
namespace Go.Br
open Go Go.Proofs

/-- brougham/conn.fresh -/
def N32 (c : Int) (c1 : Int) (c2 : Int) (c3 : Int) (c4 : Int) (c5 : Int) (c6 : Int) (c7 : Int) (c8 : Int) (c9 : Int) (c10 : Int) (c11 : Int) (c12 : Int) (c13 : Int) (c14 : Int) (role : Int) (mine : Int) (first : Int) (first1 : Int) (first2 : Int) (w : World) (Q : Value → World → Prop) : Prop :=
 RUNA PG (Instr.box 24 (.agg #[(.int .i64 c), (.int .i64 c1), (.int .i64 c2), (.int .i64 c3), (.int .i64 c4), (.int .i64 c5), (.int .i64 c6), (.int .i64 c7), (.int .i64 c8), (.int .i64 c9), (.int .i64 c10), (.int .i64 c11), (.int .i64 c12), (.int .i64 c13), (.int .i64 c14)])) w fun a4 w1 =>
 RUNA PG (Instr.box 72 (.agg #[(.int .i64 first), (.int .u16 first1), (.int .u16 first2)])) w1 fun a7 w2 =>
 RD PG (loadVar 24 a4) w2 fun v =>
 ∃ x10 : Int, ∃ x10v1 : Int, ∃ x10v2 : Int, ∃ x10v3 : Int, ∃ x10v4 : Int, ∃ x10v5 : Int, ∃ x10v6 : Int, ∃ x10v7 : Int, ∃ x10v8 : Int, ∃ x10v9 : Int, ∃ x10v10 : Int, ∃ x10v11 : Int, ∃ x10v12 : Int, ∃ x10v13 : Int, ∃ x10v14 : Int, v = (.agg #[(.int .i64 x10), (.int .i64 x10v1), (.int .i64 x10v2), (.int .i64 x10v3), (.int .i64 x10v4), (.int .i64 x10v5), (.int .i64 x10v6), (.int .i64 x10v7), (.int .i64 x10v8), (.int .i64 x10v9), (.int .i64 x10v10), (.int .i64 x10v11), (.int .i64 x10v12), (.int .i64 x10v13), (.int .i64 x10v14)]) ∧
 (RD PG (loadVar 72 a7) w2 fun v1 =>
 ∃ x13 : Int, ∃ x13v1 : Int, ∃ x13v2 : Int, v1 = (.agg #[(.int .i64 x13), (.int .u16 x13v1), (.int .u16 x13v2)]) ∧
 (RDI PG (loadVar 3 (Addr.add a7 0)) .i64 w2 fun x15 =>
 RUNL PG (Instr.buildSlice 67 1 #[(0, (.int .i64 x15))]) w2 fun x16 x16N x16C w3 =>
 RD PG (Instr.build 115 #[(1, (.agg #[(.int .i64 x10), (.int .i64 x10v1), (.int .i64 x10v2), (.int .i64 x10v3), (.int .i64 x10v4), (.int .i64 x10v5), (.int .i64 x10v6), (.int .i64 x10v7), (.int .i64 x10v8), (.int .i64 x10v9), (.int .i64 x10v10), (.int .i64 x10v11), (.int .i64 x10v12), (.int .i64 x10v13), (.int .i64 x10v14)])), (2, (.int .i64 role)), (3, (.int .i64 (1 : Int))), (5, (.int .u64 mine)), (8, (.agg #[(.int .i64 x13), (.int .u16 x13v1), (.int .u16 x13v2)])), (10, (.int .i64 (1 : Int))), (15, (.slice x16 x16N x16C))]) w3 fun v2 =>
 ∃ x17 : Value, v2 = x17 ∧
 (RUNA PG (Instr.box 115 x17) w3 fun a18 w4 =>
 RDI PG (loadVar 3 (Addr.add a4 4)) .i64 w4 fun x22 =>
 CALL PG 47 [(.int .i64 x22)] w4 fun v3 w5 =>
 ∃ x23 : Option Addr, ∃ x23v1 : Int, v3 = (.tuple #[(.pointer x23), (.int .i64 x23v1)]) ∧
 (RUNU PG (storeVar 110 (Addr.add a18 35) (.pointer x23)) w5 fun w6 =>
 RDI PG (loadVar 3 (Addr.add a4 4)) .i64 w6 fun x31 =>
 RDI PG (loadVar 3 (Addr.add a4 5)) .i64 w6 fun x33 =>
 CALL PG 48 [(.int .i64 x31), (.int .i64 x33)] w6 fun v4 w7 =>
 ∃ x34 : Option Addr, ∃ x34v1 : Int, v4 = (.tuple #[(.pointer x34), (.int .i64 x34v1)]) ∧
 (RUNU PG (storeVar 111 (Addr.add a18 36) (.pointer x34)) w7 fun w8 =>
 RDI PG (loadVar 3 (Addr.add a4 5)) .i64 w8 fun x41 =>
 CALL PG 49 [(.int .i64 x41)] w8 fun v5 w9 =>
 ∃ x42 : Option Addr, v5 = (.pointer x42) ∧
 (RUNU PG (storeVar 112 (Addr.add a18 37) (.pointer x42)) w9 fun w10 =>
 RDI PG (loadVar 3 (Addr.add a4 6)) .i64 w10 fun x47 =>
 RDI PG (loadVar 3 (Addr.add a4 7)) .i64 w10 fun x49 =>
 CALL PG 50 [(.int .i64 x47), (.int .i64 x49)] w10 fun v6 w11 =>
 ∃ x50 : Option Addr, v6 = (.pointer x50) ∧
 (RUNU PG (storeVar 113 (Addr.add a18 38) (.pointer x50)) w11 fun w12 =>
 Q (.pointer (some a18)) w12)))))))
theorem eq32 : ∀ (c : Int) (c1 : Int) (c2 : Int) (c3 : Int) (c4 : Int) (c5 : Int) (c6 : Int) (c7 : Int) (c8 : Int) (c9 : Int) (c10 : Int) (c11 : Int) (c12 : Int) (c13 : Int) (c14 : Int) (role : Int) (mine : Int) (first : Int) (first1 : Int) (first2 : Int) (w : World) (Q : Value → World → Prop), vcF PG TB Try.f32 .nil [(.agg #[(.int .i64 c), (.int .i64 c1), (.int .i64 c2), (.int .i64 c3), (.int .i64 c4), (.int .i64 c5), (.int .i64 c6), (.int .i64 c7), (.int .i64 c8), (.int .i64 c9), (.int .i64 c10), (.int .i64 c11), (.int .i64 c12), (.int .i64 c13), (.int .i64 c14)]), (.int .i64 role), (.int .u64 mine), (.agg #[(.int .i64 first), (.int .u16 first1), (.int .u16 first2)])] w Q = N32 c c1 c2 c3 c4 c5 c6 c7 c8 c9 c10 c11 c12 c13 c14 role mine first first1 first2 w Q := by intros; kernel_rfl
theorem call32 {c : Int} {c1 : Int} {c2 : Int} {c3 : Int} {c4 : Int} {c5 : Int} {c6 : Int} {c7 : Int} {c8 : Int} {c9 : Int} {c10 : Int} {c11 : Int} {c12 : Int} {c13 : Int} {c14 : Int} {role : Int} {mine : Int} {first : Int} {first1 : Int} {first2 : Int} {w : World} {Q : Value → World → Prop} (hN : N32 c c1 c2 c3 c4 c5 c6 c7 c8 c9 c10 c11 c12 c13 c14 role mine first first1 first2 w Q) : CALL PG 32 [(.agg #[(.int .i64 c), (.int .i64 c1), (.int .i64 c2), (.int .i64 c3), (.int .i64 c4), (.int .i64 c5), (.int .i64 c6), (.int .i64 c7), (.int .i64 c8), (.int .i64 c9), (.int .i64 c10), (.int .i64 c11), (.int .i64 c12), (.int .i64 c13), (.int .i64 c14)]), (.int .i64 role), (.int .u64 mine), (.agg #[(.int .i64 first), (.int .u16 first1), (.int .u16 first2)])] w Q := calls_vc tabOk Try.func32 (by rw [eq32]; exact hN)

/-- brougham/flow.New -/
def N33 (c : Int) (c1 : Int) (c2 : Int) (c3 : Int) (c4 : Int) (c5 : Int) (c6 : Int) (c7 : Int) (c8 : Int) (c9 : Int) (c10 : Int) (c11 : Int) (c12 : Int) (c13 : Int) (c14 : Int) (id : Int) (e : Int) (e1 : Int) (e2 : Int) (first : Int) (w : World) (Q : Value → World → Prop) : Prop :=
 RUNA PG (Instr.box 24 (.agg #[(.int .i64 c), (.int .i64 c1), (.int .i64 c2), (.int .i64 c3), (.int .i64 c4), (.int .i64 c5), (.int .i64 c6), (.int .i64 c7), (.int .i64 c8), (.int .i64 c9), (.int .i64 c10), (.int .i64 c11), (.int .i64 c12), (.int .i64 c13), (.int .i64 c14)])) w fun a4 w1 =>
 RUNA PG (Instr.box 72 (.agg #[(.int .i64 e), (.int .u16 e1), (.int .u16 e2)])) w1 fun a6 w2 =>
 RDI PG (loadVar 3 (Addr.add a6 0)) .i64 w2 fun x12 =>
 RDI PG (loadVar 70 (Addr.add a6 1)) .u16 w2 fun x14 =>
 RDI PG (loadVar 70 (Addr.add a6 2)) .u16 w2 fun x16 =>
 RD PG (Instr.build 106 #[(2, (.int .i64 id)), (3, (.int .i64 x12)), (4, (.int .u16 x14)), (5, (.int .u16 x16))]) w2 fun v =>
 ∃ x17 : Value, v = x17 ∧
 (RUNA PG (Instr.box 106 x17) w2 fun a18 w3 =>
 RDI PG (loadVar 3 (Addr.add a4 8)) .i64 w3 fun x21 =>
 CALL PG 51 [(.int .i64 x21)] w3 fun v1 w4 =>
 ∃ x22 : Option Addr, v1 = (.pointer x22) ∧
 (RUNU PG (storeVar 102 (Addr.add a18 17) (.pointer x22)) w4 fun w5 =>
 RDI PG (loadVar 3 (Addr.add a4 13)) .i64 w5 fun x27 =>
 CALL PG 52 [(.int .i64 x27)] w5 fun v2 w6 =>
 ∃ x28 : Option Addr, v2 = (.pointer x28) ∧
 (RUNU PG (storeVar 103 (Addr.add a18 18) (.pointer x28)) w6 fun w7 =>
 RDI PG (loadVar 3 (Addr.add a4 11)) .i64 w7 fun x33 =>
 RDI PG (loadVar 3 (Addr.add a4 12)) .i64 w7 fun x35 =>
 CALL PG 53 [(.int .i64 x33), (.int .i64 x35)] w7 fun v3 w8 =>
 ∃ x36 : Option Addr, v3 = (.pointer x36) ∧
 (RUNU PG (storeVar 104 (Addr.add a18 19) (.pointer x36)) w8 fun w9 =>
 RUNU PG (storeVar 87 (Addr.add (Addr.add a18 0) 0) (.int .i64 (1 : Int))) w9 fun w10 =>
 RUNU PG (storeVar 77 (Addr.add (Addr.add a18 0) 1) (.int .u32 first)) w10 fun w11 =>
 RUNU PG (storeVar 77 (Addr.add (Addr.add a18 0) 2) (.int .u32 first)) w11 fun w12 =>
 RUNU PG (storeVar 77 (Addr.add (Addr.add a18 0) 3) (.int .u32 (IntKind.u32.wrap (first + (1 : Int))))) w12 fun w13 =>
 Q (.pointer (some a18)) w13))))
theorem eq33 : ∀ (c : Int) (c1 : Int) (c2 : Int) (c3 : Int) (c4 : Int) (c5 : Int) (c6 : Int) (c7 : Int) (c8 : Int) (c9 : Int) (c10 : Int) (c11 : Int) (c12 : Int) (c13 : Int) (c14 : Int) (id : Int) (e : Int) (e1 : Int) (e2 : Int) (first : Int) (w : World) (Q : Value → World → Prop), vcF PG TB Try.f33 .nil [(.agg #[(.int .i64 c), (.int .i64 c1), (.int .i64 c2), (.int .i64 c3), (.int .i64 c4), (.int .i64 c5), (.int .i64 c6), (.int .i64 c7), (.int .i64 c8), (.int .i64 c9), (.int .i64 c10), (.int .i64 c11), (.int .i64 c12), (.int .i64 c13), (.int .i64 c14)]), (.int .i64 id), (.agg #[(.int .i64 e), (.int .u16 e1), (.int .u16 e2)]), (.int .u32 first)] w Q = N33 c c1 c2 c3 c4 c5 c6 c7 c8 c9 c10 c11 c12 c13 c14 id e e1 e2 first w Q := by intros; kernel_rfl
theorem call33 {c : Int} {c1 : Int} {c2 : Int} {c3 : Int} {c4 : Int} {c5 : Int} {c6 : Int} {c7 : Int} {c8 : Int} {c9 : Int} {c10 : Int} {c11 : Int} {c12 : Int} {c13 : Int} {c14 : Int} {id : Int} {e : Int} {e1 : Int} {e2 : Int} {first : Int} {w : World} {Q : Value → World → Prop} (hN : N33 c c1 c2 c3 c4 c5 c6 c7 c8 c9 c10 c11 c12 c13 c14 id e e1 e2 first w Q) : CALL PG 33 [(.agg #[(.int .i64 c), (.int .i64 c1), (.int .i64 c2), (.int .i64 c3), (.int .i64 c4), (.int .i64 c5), (.int .i64 c6), (.int .i64 c7), (.int .i64 c8), (.int .i64 c9), (.int .i64 c10), (.int .i64 c11), (.int .i64 c12), (.int .i64 c13), (.int .i64 c14)]), (.int .i64 id), (.agg #[(.int .i64 e), (.int .u16 e1), (.int .u16 e2)]), (.int .u32 first)] w Q := calls_vc tabOk Try.func33 (by rw [eq33]; exact hN)

/-- brougham/outlet.New -/
def N47 (sizev : Int) (w : World) (Q : Value → World → Prop) : Prop :=
 CALL PG 64 [(.int .i64 sizev)] w fun v w1 =>
 ∃ x8 : Option Addr, ∃ x8v1 : Int, v = (.tuple #[(.pointer x8), (.int .i64 x8v1)]) ∧
 (LETI x8v1 fun e =>
 IFB (e != (0 : Int))
 (LETI e fun x3 =>
 Q (.tuple #[(.pointer none), (.int .i64 x3)]) w1)
 (RD PG (Instr.build 120 #[(0, (.pointer x8))]) w1 fun v1 =>
 ∃ x15 : Option Addr, ∃ x15v1 : Int, ∃ x15v2 : Bool, ∃ x15v3 : Bool, v1 = (.agg #[(.pointer x15), (.int .u64 x15v1), (.bool x15v2), (.bool x15v3)]) ∧
 (RUNA PG (Instr.box 120 (.agg #[(.pointer x15), (.int .u64 x15v1), (.bool x15v2), (.bool x15v3)])) w1 fun a16 w2 =>
 Q (.tuple #[(.pointer (some a16)), (.int .i64 (0 : Int))]) w2)))
theorem eq47 : ∀ (sizev : Int) (w : World) (Q : Value → World → Prop), vcF PG TB Try.f47 .nil [(.int .i64 sizev)] w Q = N47 sizev w Q := by intros; kernel_rfl
theorem call47 {sizev : Int} {w : World} {Q : Value → World → Prop} (hN : N47 sizev w Q) : CALL PG 47 [(.int .i64 sizev)] w Q := calls_vc tabOk Try.func47 (by rw [eq47]; exact hN)

/-- brougham/inlet.New -/
def N48 (sizev : Int) (pieces : Int) (w : World) (Q : Value → World → Prop) : Prop :=
 CALL PG 64 [(.int .i64 sizev)] w fun v w1 =>
 ∃ x10 : Option Addr, ∃ x10v1 : Int, v = (.tuple #[(.pointer x10), (.int .i64 x10v1)]) ∧
 (LETI x10v1 fun e =>
 IFB (e != (0 : Int))
 (LETI e fun x5 =>
 Q (.tuple #[(.pointer none), (.int .i64 x5)]) w1)
 (CALL PG 65 [(.int .i64 pieces)] w1 fun v1 w2 =>
 ∃ x18 : Option Addr, v1 = (.pointer x18) ∧
 (RD PG (Instr.build 123 #[(0, (.pointer x10)), (1, (.pointer x18))]) w2 fun v2 =>
 ∃ x19 : Option Addr, ∃ x19v1 : Option Addr, ∃ x19v2 : Int, ∃ x19v3 : Int, ∃ x19v4 : Bool, v2 = (.agg #[(.pointer x19), (.pointer x19v1), (.int .u64 x19v2), (.int .u64 x19v3), (.bool x19v4)]) ∧
 (RUNA PG (Instr.box 123 (.agg #[(.pointer x19), (.pointer x19v1), (.int .u64 x19v2), (.int .u64 x19v3), (.bool x19v4)])) w2 fun a20 w3 =>
 Q (.tuple #[(.pointer (some a20)), (.int .i64 (0 : Int))]) w3))))
theorem eq48 : ∀ (sizev : Int) (pieces : Int) (w : World) (Q : Value → World → Prop), vcF PG TB Try.f48 .nil [(.int .i64 sizev), (.int .i64 pieces)] w Q = N48 sizev pieces w Q := by intros; kernel_rfl
theorem call48 {sizev : Int} {pieces : Int} {w : World} {Q : Value → World → Prop} (hN : N48 sizev pieces w Q) : CALL PG 48 [(.int .i64 sizev), (.int .i64 pieces)] w Q := calls_vc tabOk Try.func48 (by rw [eq48]; exact hN)

/-- brougham/flight.New -/
def N49 (most : Int) (w : World) (Q : Value → World → Prop) : Prop :=
 RD PG (Instr.build 155 #[(0, (.int .i64 (minN (maxN most (1 : Int)) (64 : Int))))]) w fun v =>
 ∃ x6 : Int, ∃ (x6v1 : Option Addr) (x6N x6C : Nat), v = (.agg #[(.int .i64 x6), (.slice x6v1 x6N x6C)]) ∧
 (RUNA PG (Instr.box 155 (.agg #[(.int .i64 x6), (.slice x6v1 x6N x6C)])) w fun a7 w1 =>
 Q (.pointer (some a7)) w1)
theorem eq49 : ∀ (most : Int) (w : World) (Q : Value → World → Prop), vcF PG TB Try.f49 .nil [(.int .i64 most)] w Q = N49 most w Q := by intros; kernel_rfl
theorem call49 {most : Int} {w : World} {Q : Value → World → Prop} (hN : N49 most w Q) : CALL PG 49 [(.int .i64 most)] w Q := calls_vc tabOk Try.func49 (by rw [eq49]; exact hN)

/-- brougham/addrs.New -/
def N50 (most : Int) (paths : Int) (w : World) (Q : Value → World → Prop) : Prop :=
 CALL PG 53 [(.int .i64 (64 : Int)), (.int .i64 (1 : Int))] w fun v w1 =>
 ∃ x5 : Option Addr, v = (.pointer x5) ∧
 (RD PG (Instr.build 168 #[(0, (.pointer x5)), (1, (.int .i64 (minN (maxN most (0 : Int)) (8 : Int)))), (2, (.int .i64 (minN (maxN paths (1 : Int)) (4 : Int))))]) w1 fun v1 =>
 ∃ x12 : Option Addr, ∃ x12v1 : Int, ∃ x12v2 : Int, ∃ (x12v3 : Option Addr) (x12N x12C : Nat), v1 = (.agg #[(.pointer x12), (.int .i64 x12v1), (.int .i64 x12v2), (.slice x12v3 x12N x12C)]) ∧
 (RUNA PG (Instr.box 168 (.agg #[(.pointer x12), (.int .i64 x12v1), (.int .i64 x12v2), (.slice x12v3 x12N x12C)])) w1 fun a13 w2 =>
 Q (.pointer (some a13)) w2))
theorem eq50 : ∀ (most : Int) (paths : Int) (w : World) (Q : Value → World → Prop), vcF PG TB Try.f50 .nil [(.int .i64 most), (.int .i64 paths)] w Q = N50 most paths w Q := by intros; kernel_rfl
theorem call50 {most : Int} {paths : Int} {w : World} {Q : Value → World → Prop} (hN : N50 most paths w Q) : CALL PG 50 [(.int .i64 most), (.int .i64 paths)] w Q := calls_vc tabOk Try.func50 (by rw [eq50]; exact hN)

/-- brougham/cwnd.New -/
def N51 (mss : Int) (w : World) (Q : Value → World → Prop) : Prop :=
 LETI (minN (maxN mss (1 : Int)) (1024 : Int)) fun mss1 =>
 RD PG (Instr.build 170 #[(0, (.int .i64 mss1)), (1, (.int .i64 (IntKind.i64.wrap ((4 : Int) * mss1)))), (2, (.int .i64 (IntKind.i64.wrap ((64 : Int) * mss1))))]) w fun v =>
 ∃ x11 : Int, ∃ x11v1 : Int, ∃ x11v2 : Int, ∃ x11v3 : Int, ∃ x11v4 : Int, v = (.agg #[(.int .i64 x11), (.int .i64 x11v1), (.int .i64 x11v2), (.int .i64 x11v3), (.int .i64 x11v4)]) ∧
 (RUNA PG (Instr.box 170 (.agg #[(.int .i64 x11), (.int .i64 x11v1), (.int .i64 x11v2), (.int .i64 x11v3), (.int .i64 x11v4)])) w fun a12 w1 =>
 Q (.pointer (some a12)) w1)
theorem eq51 : ∀ (mss : Int) (w : World) (Q : Value → World → Prop), vcF PG TB Try.f51 .nil [(.int .i64 mss)] w Q = N51 mss w Q := by intros; kernel_rfl
theorem call51 {mss : Int} {w : World} {Q : Value → World → Prop} (hN : N51 mss w Q) : CALL PG 51 [(.int .i64 mss)] w Q := calls_vc tabOk Try.func51 (by rw [eq51]; exact hN)

/-- brougham/quar.New -/
def N52 (limit : Int) (w : World) (Q : Value → World → Prop) : Prop :=
 RD PG (Instr.build 172 #[(1, (.int .i64 (minN (maxN limit (1 : Int)) (4096 : Int))))]) w fun v =>
 ∃ x6 : Int, ∃ x6v1 : Int, ∃ x6v2 : Int, v = (.agg #[(.int .i64 x6), (.int .i64 x6v1), (.int .i64 x6v2)]) ∧
 (RUNA PG (Instr.box 172 (.agg #[(.int .i64 x6), (.int .i64 x6v1), (.int .i64 x6v2)])) w fun a7 w1 =>
 Q (.pointer (some a7)) w1)
theorem eq52 : ∀ (limit : Int) (w : World) (Q : Value → World → Prop), vcF PG TB Try.f52 .nil [(.int .i64 limit)] w Q = N52 limit w Q := by intros; kernel_rfl
theorem call52 {limit : Int} {w : World} {Q : Value → World → Prop} (hN : N52 limit w Q) : CALL PG 52 [(.int .i64 limit)] w Q := calls_vc tabOk Try.func52 (by rw [eq52]; exact hN)

/-- brougham/bucket.New -/
def N53 (burst : Int) (rate : Int) (w : World) (Q : Value → World → Prop) : Prop :=
 LETI (minN (maxN burst (0 : Int)) (4096 : Int)) fun burst1 =>
 LETI (minN (maxN rate (0 : Int)) (4096 : Int)) fun rate1 =>
 RD PG (Instr.build 174 #[(0, (.int .i64 burst1)), (1, (.int .i64 rate1)), (2, (.int .i64 burst1))]) w fun v =>
 ∃ x14 : Int, ∃ x14v1 : Int, ∃ x14v2 : Int, v = (.agg #[(.int .i64 x14), (.int .i64 x14v1), (.int .i64 x14v2)]) ∧
 (RUNA PG (Instr.box 174 (.agg #[(.int .i64 x14), (.int .i64 x14v1), (.int .i64 x14v2)])) w fun a15 w1 =>
 Q (.pointer (some a15)) w1)
theorem eq53 : ∀ (burst : Int) (rate : Int) (w : World) (Q : Value → World → Prop), vcF PG TB Try.f53 .nil [(.int .i64 burst), (.int .i64 rate)] w Q = N53 burst rate w Q := by intros; kernel_rfl
theorem call53 {burst : Int} {rate : Int} {w : World} {Q : Value → World → Prop} (hN : N53 burst rate w Q) : CALL PG 53 [(.int .i64 burst), (.int .i64 rate)] w Q := calls_vc tabOk Try.func53 (by rw [eq53]; exact hN)

/-- brougham/ring.New -/
def N64 (sizev : Int) (w : World) (Q : Value → World → Prop) : Prop :=
 IFB (decide (sizev < (1 : Int)))
 (Q (.tuple #[(.pointer none), (.int .i64 (50 : Int))]) w)
 (IFB (decide (sizev > (65536 : Int)))
 (Q (.tuple #[(.pointer none), (.int .i64 (50 : Int))]) w)
 (RUNL PG (Instr.makeSlice 80 (.int .i64 sizev) (.int .i64 sizev)) w fun x11 x11N x11C w1 =>
 RD PG (Instr.build 157 #[(0, (.slice x11 x11N x11C))]) w1 fun v =>
 ∃ (x12 : Option Addr) (x12N x12C : Nat), ∃ x12v1 : Int, ∃ x12v2 : Int, v = (.agg #[(.slice x12 x12N x12C), (.int .i64 x12v1), (.int .i64 x12v2)]) ∧
 (RUNA PG (Instr.box 157 (.agg #[(.slice x12 x12N x12C), (.int .i64 x12v1), (.int .i64 x12v2)])) w1 fun a13 w2 =>
 Q (.tuple #[(.pointer (some a13)), (.int .i64 (0 : Int))]) w2)))
theorem eq64 : ∀ (sizev : Int) (w : World) (Q : Value → World → Prop), vcF PG TB Try.f64 .nil [(.int .i64 sizev)] w Q = N64 sizev w Q := by intros; kernel_rfl
theorem call64 {sizev : Int} {w : World} {Q : Value → World → Prop} (hN : N64 sizev w Q) : CALL PG 64 [(.int .i64 sizev)] w Q := calls_vc tabOk Try.func64 (by rw [eq64]; exact hN)

/-- brougham/spans.New -/
def N65 (most : Int) (w : World) (Q : Value → World → Prop) : Prop :=
 RD PG (Instr.build 188 #[(0, (.int .i64 (minN (maxN most (1 : Int)) (64 : Int))))]) w fun v =>
 ∃ x6 : Int, ∃ (x6v1 : Option Addr) (x6N x6C : Nat), v = (.agg #[(.int .i64 x6), (.slice x6v1 x6N x6C)]) ∧
 (RUNA PG (Instr.box 188 (.agg #[(.int .i64 x6), (.slice x6v1 x6N x6C)])) w fun a7 w1 =>
 Q (.pointer (some a7)) w1)
theorem eq65 : ∀ (most : Int) (w : World) (Q : Value → World → Prop), vcF PG TB Try.f65 .nil [(.int .i64 most)] w Q = N65 most w Q := by intros; kernel_rfl
theorem call65 {most : Int} {w : World} {Q : Value → World → Prop} (hN : N65 most w Q) : CALL PG 65 [(.int .i64 most)] w Q := calls_vc tabOk Try.func65 (by rw [eq65]; exact hN)

end Go.Br
