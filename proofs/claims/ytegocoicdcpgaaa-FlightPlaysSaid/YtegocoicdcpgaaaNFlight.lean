/- What the code of some functions says, as the core reads it; each reading is checked by the kernel. -/
import Derived.Test.YtegocoicdcpgaaaBrSeat
set_option linter.unusedVariables false
set_option maxRecDepth 100000
namespace Go.Br
open Go Go.Proofs

/-- brougham/flight.New -/
def N30 (most : Int) (w : World) (Q : Value → World → Prop) : Prop :=
 RD PG (Instr.build 143 #[(0, (.int .i64 (minN (maxN most (1 : Int)) (64 : Int))))]) w fun v =>
 ∃ x6 : Int, ∃ (x6v1 : Option Addr) (x6N x6C : Nat), v = (.agg #[(.int .i64 x6), (.slice x6v1 x6N x6C)]) ∧
 (RUN PG (Instr.box 143 (.agg #[(.int .i64 x6), (.slice x6v1 x6N x6C)])) w fun v1 w1 =>
 ∃ a7 : Addr, v1 = (.pointer (some a7)) ∧
 (Q (.pointer (some a7)) w1))
theorem eq30 : ∀ (most : Int) (w : World) (Q : Value → World → Prop), vcF PG TB Try.f30 .nil [(.int .i64 most)] w Q = N30 most w Q := by intros; kernel_rfl
theorem call30 {most : Int} {w : World} {Q : Value → World → Prop} (hN : N30 most w Q) : CALL PG 30 [(.int .i64 most)] w Q := calls_vc tabOk Try.func30 (by rw [eq30]; exact hN)

/-- (*brougham/flight.List).Add -/
def N31 (x : Option Addr) (c : Int) (c1 : Int) (c2 : Bool) (c3 : Int) (c4 : Int) (c5 : Int) (c6 : Int) (c7 : Bool) (c8 : Bool) (w : World) (Q : Value → World → Prop) : Prop :=
 RUN PG (Instr.box 46 (.agg #[(.int .u64 c), (.int .i64 c1), (.bool c2), (.int .i64 c3), (.int .u32 c4), (.int .i64 c5), (.int .i64 c6), (.bool c7), (.bool c8)])) w fun v w1 =>
 ∃ a3 : Addr, v = (.pointer (some a3)) ∧
 (NILC x fun a6 =>
 RD PG (loadVar 47 (Addr.add a6 1)) (w1.drew) fun v1 =>
 ∃ (x8 : Option Addr) (x8N x8C : Nat), v1 = (.slice x8 x8N x8C) ∧
 (NILC x fun a11 =>
 RD PG (loadVar 3 (Addr.add a11 0)) (w1.drew) fun v2 =>
 ∃ x13 : Int, v2 = (.int .i64 x13) ∧
 (IFB (decide ((x8N : Int) ≥ x13))
 (Q (.bool false) (w1.drew))
 (∃ S : World → Prop, S ((w1.drew).drew) ∧
 (NILC x fun a17 =>
 RDS PG (loadVar 47 (Addr.add a17 1)) S fun v3 =>
 ∃ (x19 : Option Addr) (x19N x19C : Nat), v3 = (.slice x19 x19N x19C) ∧
 (RDS PG (loadVar 46 a3) S fun v4 =>
 ∃ x20 : Int, ∃ x20v1 : Int, ∃ x20v2 : Bool, ∃ x20v3 : Int, ∃ x20v4 : Int, ∃ x20v5 : Int, ∃ x20v6 : Int, ∃ x20v7 : Bool, ∃ x20v8 : Bool, v4 = (.agg #[(.int .u64 x20), (.int .i64 x20v1), (.bool x20v2), (.int .i64 x20v3), (.int .u32 x20v4), (.int .i64 x20v5), (.int .i64 x20v6), (.bool x20v7), (.bool x20v8)]) ∧
 (RUN PG (Instr.buildSlice 47 1 #[(0, (.agg #[(.int .u64 x20), (.int .i64 x20v1), (.bool x20v2), (.int .i64 x20v3), (.int .u32 x20v4), (.int .i64 x20v5), (.int .i64 x20v6), (.bool x20v7), (.bool x20v8)]))]) ((w1.drew).drew) fun v5 w2 =>
 ∃ (x21 : Option Addr) (x21N x21C : Nat), v5 = (.slice x21 x21N x21C) ∧
 (∃ S1 : World → Prop, (∀ x, S1 x → S x) ∧ S1 w2 ∧
 (RUN PG (Builtin.append_ #[47, 47] 47 #[(.slice x19 x19N x19C), (.slice x21 x21N x21C)]) w2 fun v6 w3 =>
 ∃ (x22 : Option Addr) (x22N x22C : Nat), v6 = (.slice x22 x22N x22C) ∧
 (NILC x fun a23 =>
 RUNU PG (storeVar 47 (Addr.add a23 1) (.slice x22 x22N x22C)) w3 fun w4 =>
 Q (.bool true) w4))))))))))
theorem eq31 : ∀ (x : Option Addr) (c : Int) (c1 : Int) (c2 : Bool) (c3 : Int) (c4 : Int) (c5 : Int) (c6 : Int) (c7 : Bool) (c8 : Bool) (w : World) (Q : Value → World → Prop), vcF PG TB Try.f31 .nil [(.pointer x), (.agg #[(.int .u64 c), (.int .i64 c1), (.bool c2), (.int .i64 c3), (.int .u32 c4), (.int .i64 c5), (.int .i64 c6), (.bool c7), (.bool c8)])] w Q = N31 x c c1 c2 c3 c4 c5 c6 c7 c8 w Q := by intros; kernel_rfl
theorem call31 {x : Option Addr} {c : Int} {c1 : Int} {c2 : Bool} {c3 : Int} {c4 : Int} {c5 : Int} {c6 : Int} {c7 : Bool} {c8 : Bool} {w : World} {Q : Value → World → Prop} (hN : N31 x c c1 c2 c3 c4 c5 c6 c7 c8 w Q) : CALL PG 31 [(.pointer x), (.agg #[(.int .u64 c), (.int .i64 c1), (.bool c2), (.int .i64 c3), (.int .u32 c4), (.int .i64 c5), (.int .i64 c6), (.bool c7), (.bool c8)])] w Q := calls_vc tabOk Try.func31 (by rw [eq31]; exact hN)

/-- (*brougham/flight.List).Gone -/
def N32 (x : Option Addr) (flow : Int) (w : World) (Q : Value → World → Prop) : Prop :=
 NILC x fun a9 =>
 RD PG (loadVar 47 (Addr.add a9 1)) w fun v =>
 ∃ (x11 : Option Addr) (x11N x11C : Nat), v = (.slice x11 x11N x11C) ∧
 (∃ I : Nat → Option Addr → Nat → Nat → Int → World → Prop,
 (∃ m, I m none 0 0 (0 : Int) w) ∧
 (∀ m1 (out : Option Addr) (outN outC : Nat) (x13 : Int) (w1 : World), I m1 out outN outC x13 w1 → (IFB (decide (x13 < (x11N : Int)))
 (LETI x13 fun i =>
 NILC x fun a17 =>
 RD PG (loadVar 47 (Addr.add a17 1)) w1 fun v1 =>
 ∃ (x19 : Option Addr) (x19N x19C : Nat), v1 = (.slice x19 x19N x19C) ∧
 (IDX x19 x19N i fun a21 =>
 RD PG (loadVar 3 (Addr.add (Addr.add a21 (Int.toNat i * 9)) 3)) w1 fun v2 =>
 ∃ x25 : Int, v2 = (.int .i64 x25) ∧
 (IFB (x25 == flow)
 (RD PG (loadVar 4 (Addr.add (Addr.add a21 (Int.toNat i * 9)) 8)) w1 fun v3 =>
 ∃ x32 : Bool, v3 = (.bool x32) ∧
 (IFB (!x32)
 (RUNU PG (storeVar 4 (Addr.add (Addr.add a21 (Int.toNat i * 9)) 8) (.bool true)) w1 fun w2 =>
 RD PG (loadVar 46 (Addr.add a21 (Int.toNat i * 9))) w2 fun v4 =>
 ∃ x41 : Int, ∃ x41v1 : Int, ∃ x41v2 : Bool, ∃ x41v3 : Int, ∃ x41v4 : Int, ∃ x41v5 : Int, ∃ x41v6 : Int, ∃ x41v7 : Bool, ∃ x41v8 : Bool, v4 = (.agg #[(.int .u64 x41), (.int .i64 x41v1), (.bool x41v2), (.int .i64 x41v3), (.int .u32 x41v4), (.int .i64 x41v5), (.int .i64 x41v6), (.bool x41v7), (.bool x41v8)]) ∧
 (RUN PG (Instr.buildSlice 47 1 #[(0, (.agg #[(.int .u64 x41), (.int .i64 x41v1), (.bool x41v2), (.int .i64 x41v3), (.int .u32 x41v4), (.int .i64 x41v5), (.int .i64 x41v6), (.bool x41v7), (.bool x41v8)]))]) w2 fun v5 w3 =>
 ∃ (x42 : Option Addr) (x42N x42C : Nat), v5 = (.slice x42 x42N x42C) ∧
 (RUN PG (Builtin.append_ #[47, 47] 47 #[(.slice out outN outC), (.slice x42 x42N x42C)]) w3 fun v6 w4 =>
 ∃ (x43 : Option Addr) (x43N x43C : Nat), v6 = (.slice x43 x43N x43C) ∧
 (∃ m2, m2 < m1 ∧ I m2 x43 x43N x43C (IntKind.i64.wrap (x13 + (1 : Int))) w4))))
 (∃ m3, m3 < m1 ∧ I m3 out outN outC (IntKind.i64.wrap (x13 + (1 : Int))) w1)))
 (∃ m4, m4 < m1 ∧ I m4 out outN outC (IntKind.i64.wrap (x13 + (1 : Int))) w1))))
 (Q (.slice out outN outC) w1))))
theorem eq32 : ∀ (x : Option Addr) (flow : Int) (w : World) (Q : Value → World → Prop), vcF PG TB Try.f32 (.s .nil (.s .nil (.s (.s .nil (.u (.loop [(5, 47), (13, 3)] .nil))) .nil))) [(.pointer x), (.int .i64 flow)] w Q = N32 x flow w Q := by intros; kernel_rfl
theorem call32 {x : Option Addr} {flow : Int} {w : World} {Q : Value → World → Prop} (hN : N32 x flow w Q) : CALL PG 32 [(.pointer x), (.int .i64 flow)] w Q := calls_vc tabOk Try.func32 (by rw [eq32]; exact hN)

/-- (*brougham/flight.List).Acked -/
def N33 (x : Option Addr) (tov : Int) (w : World) (Q : Value → World → Prop) : Prop :=
 NILC x fun a10 =>
 RD PG (loadVar 47 (Addr.add a10 1)) w fun v =>
 ∃ (x12 : Option Addr) (x12N x12C : Nat), v = (.slice x12 x12N x12C) ∧
 (∃ I : Nat → Option Addr → Nat → Nat → Option Addr → Nat → Nat → Int → World → Prop,
 (∃ m, I m none 0 0 none 0 0 (0 : Int) w) ∧
 (∀ m1 (gone : Option Addr) (goneN goneC : Nat) (left : Option Addr) (leftN leftC : Nat) (x14 : Int) (w1 : World), I m1 gone goneN goneC left leftN leftC x14 w1 → (IFB (decide (x14 < (x12N : Int)))
 (IDX x12 x12N x14 fun a16 =>
 RD PG (loadVar 46 (Addr.add a16 (Int.toNat x14 * 9))) w1 fun v1 =>
 ∃ x17 : Int, ∃ x17v1 : Int, ∃ x17v2 : Bool, ∃ x17v3 : Int, ∃ x17v4 : Int, ∃ x17v5 : Int, ∃ x17v6 : Int, ∃ x17v7 : Bool, ∃ x17v8 : Bool, v1 = (.agg #[(.int .u64 x17), (.int .i64 x17v1), (.bool x17v2), (.int .i64 x17v3), (.int .u32 x17v4), (.int .i64 x17v5), (.int .i64 x17v6), (.bool x17v7), (.bool x17v8)]) ∧
 (RUN PG (Instr.alloc 46 true (.tuple #[])) w1 fun v2 w2 =>
 ∃ a8 : Addr, v2 = (.pointer (some a8)) ∧
 (RUNU PG (storeVar 46 a8 (.agg #[(.int .u64 x17), (.int .i64 x17v1), (.bool x17v2), (.int .i64 x17v3), (.int .u32 x17v4), (.int .i64 x17v5), (.int .i64 x17v6), (.bool x17v7), (.bool x17v8)])) w2 fun w3 =>
 RD PG (loadVar 46 a8) w3 fun v3 =>
 ∃ x18 : Int, ∃ x18v1 : Int, ∃ x18v2 : Bool, ∃ x18v3 : Int, ∃ x18v4 : Int, ∃ x18v5 : Int, ∃ x18v6 : Int, ∃ x18v7 : Bool, ∃ x18v8 : Bool, v3 = (.agg #[(.int .u64 x18), (.int .i64 x18v1), (.bool x18v2), (.int .i64 x18v3), (.int .u32 x18v4), (.int .i64 x18v5), (.int .i64 x18v6), (.bool x18v7), (.bool x18v8)]) ∧
 (CALL PG 34 [(.agg #[(.int .u64 x18), (.int .i64 x18v1), (.bool x18v2), (.int .i64 x18v3), (.int .u32 x18v4), (.int .i64 x18v5), (.int .i64 x18v6), (.bool x18v7), (.bool x18v8)])] w3 fun v4 w4 =>
 ∃ x19 : Int, v4 = (.int .u64 x19) ∧
 (IFB (decide (x19 ≤ tov))
 (RD PG (loadVar 46 a8) w4 fun v5 =>
 ∃ x23 : Int, ∃ x23v1 : Int, ∃ x23v2 : Bool, ∃ x23v3 : Int, ∃ x23v4 : Int, ∃ x23v5 : Int, ∃ x23v6 : Int, ∃ x23v7 : Bool, ∃ x23v8 : Bool, v5 = (.agg #[(.int .u64 x23), (.int .i64 x23v1), (.bool x23v2), (.int .i64 x23v3), (.int .u32 x23v4), (.int .i64 x23v5), (.int .i64 x23v6), (.bool x23v7), (.bool x23v8)]) ∧
 (RUN PG (Instr.buildSlice 47 1 #[(0, (.agg #[(.int .u64 x23), (.int .i64 x23v1), (.bool x23v2), (.int .i64 x23v3), (.int .u32 x23v4), (.int .i64 x23v5), (.int .i64 x23v6), (.bool x23v7), (.bool x23v8)]))]) w4 fun v6 w5 =>
 ∃ (x24 : Option Addr) (x24N x24C : Nat), v6 = (.slice x24 x24N x24C) ∧
 (RUN PG (Builtin.append_ #[47, 47] 47 #[(.slice gone goneN goneC), (.slice x24 x24N x24C)]) w5 fun v7 w6 =>
 ∃ (x25 : Option Addr) (x25N x25C : Nat), v7 = (.slice x25 x25N x25C) ∧
 (∃ m2, m2 < m1 ∧ I m2 x25 x25N x25C left leftN leftC (IntKind.i64.wrap (x14 + (1 : Int))) w6))))
 (RD PG (loadVar 46 a8) w4 fun v8 =>
 ∃ x27 : Int, ∃ x27v1 : Int, ∃ x27v2 : Bool, ∃ x27v3 : Int, ∃ x27v4 : Int, ∃ x27v5 : Int, ∃ x27v6 : Int, ∃ x27v7 : Bool, ∃ x27v8 : Bool, v8 = (.agg #[(.int .u64 x27), (.int .i64 x27v1), (.bool x27v2), (.int .i64 x27v3), (.int .u32 x27v4), (.int .i64 x27v5), (.int .i64 x27v6), (.bool x27v7), (.bool x27v8)]) ∧
 (RUN PG (Instr.buildSlice 47 1 #[(0, (.agg #[(.int .u64 x27), (.int .i64 x27v1), (.bool x27v2), (.int .i64 x27v3), (.int .u32 x27v4), (.int .i64 x27v5), (.int .i64 x27v6), (.bool x27v7), (.bool x27v8)]))]) w4 fun v9 w7 =>
 ∃ (x28 : Option Addr) (x28N x28C : Nat), v9 = (.slice x28 x28N x28C) ∧
 (RUN PG (Builtin.append_ #[47, 47] 47 #[(.slice left leftN leftC), (.slice x28 x28N x28C)]) w7 fun v10 w8 =>
 ∃ (x29 : Option Addr) (x29N x29C : Nat), v10 = (.slice x29 x29N x29C) ∧
 (∃ m3, m3 < m1 ∧ I m3 gone goneN goneC x29 x29N x29C (IntKind.i64.wrap (x14 + (1 : Int))) w8)))))))))
 (NILC x fun a33 =>
 RUNU PG (storeVar 47 (Addr.add a33 1) (.slice left leftN leftC)) w1 fun w9 =>
 Q (.slice gone goneN goneC) w9))))
theorem eq33 : ∀ (x : Option Addr) (tov : Int) (w : World) (Q : Value → World → Prop), vcF PG TB Try.f33 (.s .nil (.s .nil (.s (.s .nil (.u (.loop [(5, 47), (6, 47), (14, 3)] .nil))) .nil))) [(.pointer x), (.int .u64 tov)] w Q = N33 x tov w Q := by intros; kernel_rfl
theorem call33 {x : Option Addr} {tov : Int} {w : World} {Q : Value → World → Prop} (hN : N33 x tov w Q) : CALL PG 33 [(.pointer x), (.int .u64 tov)] w Q := calls_vc tabOk Try.func33 (by rw [eq33]; exact hN)

/-- (brougham/flight.Chunk).To -/
def N34 (c : Int) (c1 : Int) (c2 : Bool) (c3 : Int) (c4 : Int) (c5 : Int) (c6 : Int) (c7 : Bool) (c8 : Bool) (w : World) (Q : Value → World → Prop) : Prop :=
 RUN PG (Instr.box 46 (.agg #[(.int .u64 c), (.int .i64 c1), (.bool c2), (.int .i64 c3), (.int .u32 c4), (.int .i64 c5), (.int .i64 c6), (.bool c7), (.bool c8)])) w fun v w1 =>
 ∃ a1 : Addr, v = (.pointer (some a1)) ∧
 (RD PG (loadVar 40 (Addr.add a1 0)) w1 fun v1 =>
 ∃ x5 : Int, v1 = (.int .u64 x5) ∧
 (RD PG (loadVar 3 (Addr.add a1 1)) w1 fun v2 =>
 ∃ x7 : Int, v2 = (.int .i64 x7) ∧
 (LETI (IntKind.u64.wrap (x5 + (IntKind.u64.wrap (maxN x7 (0 : Int))))) fun n =>
 RD PG (loadVar 4 (Addr.add a1 2)) w1 fun v3 =>
 ∃ x12 : Bool, v3 = (.bool x12) ∧
 (IFB x12
 (LETI (IntKind.u64.wrap (n + (1 : Int))) fun n1 =>
 LETI n1 fun x2 =>
 Q (.int .u64 x2) w1)
 (LETI n fun x2v1 =>
 Q (.int .u64 x2v1) w1)))))
theorem eq34 : ∀ (c : Int) (c1 : Int) (c2 : Bool) (c3 : Int) (c4 : Int) (c5 : Int) (c6 : Int) (c7 : Bool) (c8 : Bool) (w : World) (Q : Value → World → Prop), vcF PG TB Try.f34 .nil [(.agg #[(.int .u64 c), (.int .i64 c1), (.bool c2), (.int .i64 c3), (.int .u32 c4), (.int .i64 c5), (.int .i64 c6), (.bool c7), (.bool c8)])] w Q = N34 c c1 c2 c3 c4 c5 c6 c7 c8 w Q := by intros; kernel_rfl
theorem call34 {c : Int} {c1 : Int} {c2 : Bool} {c3 : Int} {c4 : Int} {c5 : Int} {c6 : Int} {c7 : Bool} {c8 : Bool} {w : World} {Q : Value → World → Prop} (hN : N34 c c1 c2 c3 c4 c5 c6 c7 c8 w Q) : CALL PG 34 [(.agg #[(.int .u64 c), (.int .i64 c1), (.bool c2), (.int .i64 c3), (.int .u32 c4), (.int .i64 c5), (.int .i64 c6), (.bool c7), (.bool c8)])] w Q := calls_vc tabOk Try.func34 (by rw [eq34]; exact hN)

/-- (*brougham/flight.List).All -/
def N35 (x : Option Addr) (w : World) (Q : Value → World → Prop) : Prop :=
 NILC x fun a4 =>
 RD PG (loadVar 47 (Addr.add a4 1)) w fun v =>
 ∃ (x6 : Option Addr) (x6N x6C : Nat), v = (.slice x6 x6N x6C) ∧
 (CALL PG 91 [(.slice x6 x6N x6C)] w fun v1 w1 =>
 ∃ (x7 : Option Addr) (x7N x7C : Nat), v1 = (.slice x7 x7N x7C) ∧
 (Q (.slice x7 x7N x7C) w1))
theorem eq35 : ∀ (x : Option Addr) (w : World) (Q : Value → World → Prop), vcF PG TB Try.f35 .nil [(.pointer x)] w Q = N35 x w Q := by intros; kernel_rfl
theorem call35 {x : Option Addr} {w : World} {Q : Value → World → Prop} (hN : N35 x w Q) : CALL PG 35 [(.pointer x)] w Q := calls_vc tabOk Try.func35 (by rw [eq35]; exact hN)

/-- (*brougham/flight.List).Again -/
def N76 (x : Option Addr) (w : World) (Q : Value → World → Prop) : Prop :=
 RUN PG (Instr.alloc 46 true (.tuple #[])) w fun v w1 =>
 ∃ a2 : Addr, v = (.pointer (some a2)) ∧
 (NILC x fun a7 =>
 RD PG (loadVar 47 (Addr.add a7 1)) w1 fun v1 =>
 ∃ (x9 : Option Addr) (x9N x9C : Nat), v1 = (.slice x9 x9N x9C) ∧
 (∃ I : Nat → Int → World → Prop,
 (∃ m, I m (0 : Int) w1) ∧
 (∀ m1 (x11 : Int) (w2 : World), I m1 x11 w2 → (IFB (decide (x11 < (x9N : Int)))
 (IDX x9 x9N x11 fun a13 =>
 RD PG (loadVar 46 (Addr.add a13 (Int.toNat x11 * 9))) w2 fun v2 =>
 ∃ x14 : Int, ∃ x14v1 : Int, ∃ x14v2 : Bool, ∃ x14v3 : Int, ∃ x14v4 : Int, ∃ x14v5 : Int, ∃ x14v6 : Int, ∃ x14v7 : Bool, ∃ x14v8 : Bool, v2 = (.agg #[(.int .u64 x14), (.int .i64 x14v1), (.bool x14v2), (.int .i64 x14v3), (.int .u32 x14v4), (.int .i64 x14v5), (.int .i64 x14v6), (.bool x14v7), (.bool x14v8)]) ∧
 (RUN PG (Instr.alloc 46 true (.tuple #[])) w2 fun v3 w3 =>
 ∃ a5 : Addr, v3 = (.pointer (some a5)) ∧
 (RUNU PG (storeVar 46 a5 (.agg #[(.int .u64 x14), (.int .i64 x14v1), (.bool x14v2), (.int .i64 x14v3), (.int .u32 x14v4), (.int .i64 x14v5), (.int .i64 x14v6), (.bool x14v7), (.bool x14v8)])) w3 fun w4 =>
 RD PG (loadVar 4 (Addr.add a5 8)) w4 fun v4 =>
 ∃ x16 : Bool, v4 = (.bool x16) ∧
 (IFB x16
 (RD PG (loadVar 46 a5) w4 fun v5 =>
 ∃ x17 : Int, ∃ x17v1 : Int, ∃ x17v2 : Bool, ∃ x17v3 : Int, ∃ x17v4 : Int, ∃ x17v5 : Int, ∃ x17v6 : Int, ∃ x17v7 : Bool, ∃ x17v8 : Bool, v5 = (.agg #[(.int .u64 x17), (.int .i64 x17v1), (.bool x17v2), (.int .i64 x17v3), (.int .u32 x17v4), (.int .i64 x17v5), (.int .i64 x17v6), (.bool x17v7), (.bool x17v8)]) ∧
 (RUNU PG (storeVar 46 a2 (.agg #[(.int .u64 x17), (.int .i64 x17v1), (.bool x17v2), (.int .i64 x17v3), (.int .u32 x17v4), (.int .i64 x17v5), (.int .i64 x17v6), (.bool x17v7), (.bool x17v8)])) w4 fun w5 =>
 RD PG (loadVar 46 a2) w5 fun v7 =>
 ∃ r : Int, ∃ r1 : Int, ∃ r2 : Bool, ∃ r3 : Int, ∃ r4 : Int, ∃ r5 : Int, ∃ r6 : Int, ∃ r7 : Bool, ∃ r8 : Bool, v7 = (.agg #[(.int .u64 r), (.int .i64 r1), (.bool r2), (.int .i64 r3), (.int .u32 r4), (.int .i64 r5), (.int .i64 r6), (.bool r7), (.bool r8)]) ∧
 (Q (.tuple #[(.agg #[(.int .u64 r), (.int .i64 r1), (.bool r2), (.int .i64 r3), (.int .u32 r4), (.int .i64 r5), (.int .i64 r6), (.bool r7), (.bool r8)]), (.bool true)]) w5)))
 (∃ m2, m2 < m1 ∧ I m2 (IntKind.i64.wrap (x11 + (1 : Int))) w4)))))
 (RD PG (Instr.build 46 #[]) w2 fun v8 =>
 ∃ x19 : Int, ∃ x19v1 : Int, ∃ x19v2 : Bool, ∃ x19v3 : Int, ∃ x19v4 : Int, ∃ x19v5 : Int, ∃ x19v6 : Int, ∃ x19v7 : Bool, ∃ x19v8 : Bool, v8 = (.agg #[(.int .u64 x19), (.int .i64 x19v1), (.bool x19v2), (.int .i64 x19v3), (.int .u32 x19v4), (.int .i64 x19v5), (.int .i64 x19v6), (.bool x19v7), (.bool x19v8)]) ∧
 (RUNU PG (storeVar 46 a2 (.agg #[(.int .u64 x19), (.int .i64 x19v1), (.bool x19v2), (.int .i64 x19v3), (.int .u32 x19v4), (.int .i64 x19v5), (.int .i64 x19v6), (.bool x19v7), (.bool x19v8)])) w2 fun w6 =>
 RD PG (loadVar 46 a2) w6 fun v10 =>
 ∃ r9 : Int, ∃ r10 : Int, ∃ r11 : Bool, ∃ r12 : Int, ∃ r13 : Int, ∃ r14 : Int, ∃ r15 : Int, ∃ r16 : Bool, ∃ r17 : Bool, v10 = (.agg #[(.int .u64 r9), (.int .i64 r10), (.bool r11), (.int .i64 r12), (.int .u32 r13), (.int .i64 r14), (.int .i64 r15), (.bool r16), (.bool r17)]) ∧
 (Q (.tuple #[(.agg #[(.int .u64 r9), (.int .i64 r10), (.bool r11), (.int .i64 r12), (.int .u32 r13), (.int .i64 r14), (.int .i64 r15), (.bool r16), (.bool r17)]), (.bool false)]) w6)))))))
theorem eq76 : ∀ (x : Option Addr) (w : World) (Q : Value → World → Prop), vcF PG TB Try.f76 (.s .nil (.s (.s .nil (.u (.loop [(11, 3)] .nil))) .nil)) [(.pointer x)] w Q = N76 x w Q := by intros; kernel_rfl
theorem call76 {x : Option Addr} {w : World} {Q : Value → World → Prop} (hN : N76 x w Q) : CALL PG 76 [(.pointer x)] w Q := calls_vc tabOk Try.func76 (by rw [eq76]; exact hN)

/-- (*brougham/flight.List).Len -/
def N80 (x : Option Addr) (w : World) (Q : Value → World → Prop) : Prop :=
 NILC x fun a4 =>
 RD PG (loadVar 47 (Addr.add a4 1)) w fun v =>
 ∃ (x6 : Option Addr) (x6N x6C : Nat), v = (.slice x6 x6N x6C) ∧
 (LETI (x6N : Int) fun x2 =>
 Q (.int .i64 x2) w)
theorem eq80 : ∀ (x : Option Addr) (w : World) (Q : Value → World → Prop), vcF PG TB Try.f80 .nil [(.pointer x)] w Q = N80 x w Q := by intros; kernel_rfl
theorem call80 {x : Option Addr} {w : World} {Q : Value → World → Prop} (hN : N80 x w Q) : CALL PG 80 [(.pointer x)] w Q := calls_vc tabOk Try.func80 (by rw [eq80]; exact hN)

/-- (*brougham/flight.List).Free -/
def N81 (x : Option Addr) (w : World) (Q : Value → World → Prop) : Prop :=
 NILC x fun a4 =>
 RD PG (loadVar 3 (Addr.add a4 0)) (w.drew) fun v =>
 ∃ x6 : Int, v = (.int .i64 x6) ∧
 (NILC x fun a8 =>
 RD PG (loadVar 47 (Addr.add a8 1)) (w.drew) fun v1 =>
 ∃ (x10 : Option Addr) (x10N x10C : Nat), v1 = (.slice x10 x10N x10C) ∧
 (LETI (IntKind.i64.wrap (x6 - (x10N : Int))) fun x2 =>
 Q (.int .i64 x2) (w.drew)))
theorem eq81 : ∀ (x : Option Addr) (w : World) (Q : Value → World → Prop), vcF PG TB Try.f81 .nil [(.pointer x)] w Q = N81 x w Q := by intros; kernel_rfl
theorem call81 {x : Option Addr} {w : World} {Q : Value → World → Prop} (hN : N81 x w Q) : CALL PG 81 [(.pointer x)] w Q := calls_vc tabOk Try.func81 (by rw [eq81]; exact hN)

/-- slices.Clone[[]brougham/flight.Chunk,brougham/flight.Chunk] -/
def N91 (s : Option Addr) (sN sC : Nat) (w : World) (Q : Value → World → Prop) : Prop :=
 IFB (s.isNone)
 (Q (.slice none 0 0) w)
 (RUN PG (Instr.buildSlice 47 0 #[]) w fun v w1 =>
 ∃ (x5 : Option Addr) (x5N x5C : Nat), v = (.slice x5 x5N x5C) ∧
 (RUN PG (Builtin.append_ #[47, 47] 47 #[(.slice x5 x5N x5C), (.slice s sN sC)]) w1 fun v1 w2 =>
 ∃ (x7 : Option Addr) (x7N x7C : Nat), v1 = (.slice x7 x7N x7C) ∧
 (Q (.slice x7 x7N x7C) w2)))
theorem eq91 : ∀ (s : Option Addr) (sN sC : Nat) (w : World) (Q : Value → World → Prop), vcF PG TB Try.f91 .nil [(.slice s sN sC)] w Q = N91 s sN sC w Q := by intros; kernel_rfl
theorem call91 {s : Option Addr} {sN sC : Nat} {w : World} {Q : Value → World → Prop} (hN : N91 s sN sC w Q) : CALL PG 91 [(.slice s sN sC)] w Q := calls_vc tabOk Try.func91 (by rw [eq91]; exact hN)

/-- (*brougham/flight.List).Late -/
def N92 (x : Option Addr) (flow : Int) (now : Int) (wait : Int) (w : World) (Q : Value → World → Prop) : Prop :=
 NILC x fun a13 =>
 RD PG (loadVar 47 (Addr.add a13 1)) w fun v =>
 ∃ (x15 : Option Addr) (x15N x15C : Nat), v = (.slice x15 x15N x15C) ∧
 (∃ I : Nat → Option Addr → Nat → Nat → Int → World → Prop,
 (∃ m, I m none 0 0 (0 : Int) w) ∧
 (∀ m1 (out : Option Addr) (outN outC : Nat) (x17 : Int) (w1 : World), I m1 out outN outC x17 w1 → (IFB (decide (x17 < (x15N : Int)))
 (LETI x17 fun i =>
 NILC x fun a21 =>
 RD PG (loadVar 47 (Addr.add a21 1)) w1 fun v1 =>
 ∃ (x23 : Option Addr) (x23N x23C : Nat), v1 = (.slice x23 x23N x23C) ∧
 (IDX x23 x23N i fun a25 =>
 RD PG (loadVar 3 (Addr.add (Addr.add a25 (Int.toNat i * 9)) 3)) w1 fun v2 =>
 ∃ x29 : Int, v2 = (.int .i64 x29) ∧
 (IFB (x29 == flow)
 (RD PG (loadVar 4 (Addr.add (Addr.add a25 (Int.toNat i * 9)) 7)) w1 fun v3 =>
 ∃ x36 : Bool, v3 = (.bool x36) ∧
 (IFB (!x36)
 (RD PG (loadVar 4 (Addr.add (Addr.add a25 (Int.toNat i * 9)) 8)) w1 fun v4 =>
 ∃ x43 : Bool, v4 = (.bool x43) ∧
 (IFB (!x43)
 (RD PG (loadVar 3 (Addr.add (Addr.add a25 (Int.toNat i * 9)) 5)) w1 fun v5 =>
 ∃ x51 : Int, v5 = (.int .i64 x51) ∧
 (IFB (decide ((IntKind.i64.wrap (now - x51)) ≥ wait))
 (RUNU PG (storeVar 4 (Addr.add (Addr.add a25 (Int.toNat i * 9)) 8) (.bool true)) w1 fun w2 =>
 RD PG (loadVar 46 (Addr.add a25 (Int.toNat i * 9))) w2 fun v6 =>
 ∃ x62 : Int, ∃ x62v1 : Int, ∃ x62v2 : Bool, ∃ x62v3 : Int, ∃ x62v4 : Int, ∃ x62v5 : Int, ∃ x62v6 : Int, ∃ x62v7 : Bool, ∃ x62v8 : Bool, v6 = (.agg #[(.int .u64 x62), (.int .i64 x62v1), (.bool x62v2), (.int .i64 x62v3), (.int .u32 x62v4), (.int .i64 x62v5), (.int .i64 x62v6), (.bool x62v7), (.bool x62v8)]) ∧
 (RUN PG (Instr.buildSlice 47 1 #[(0, (.agg #[(.int .u64 x62), (.int .i64 x62v1), (.bool x62v2), (.int .i64 x62v3), (.int .u32 x62v4), (.int .i64 x62v5), (.int .i64 x62v6), (.bool x62v7), (.bool x62v8)]))]) w2 fun v7 w3 =>
 ∃ (x63 : Option Addr) (x63N x63C : Nat), v7 = (.slice x63 x63N x63C) ∧
 (RUN PG (Builtin.append_ #[47, 47] 47 #[(.slice out outN outC), (.slice x63 x63N x63C)]) w3 fun v8 w4 =>
 ∃ (x64 : Option Addr) (x64N x64C : Nat), v8 = (.slice x64 x64N x64C) ∧
 (∃ m2, m2 < m1 ∧ I m2 x64 x64N x64C (IntKind.i64.wrap (x17 + (1 : Int))) w4))))
 (∃ m3, m3 < m1 ∧ I m3 out outN outC (IntKind.i64.wrap (x17 + (1 : Int))) w1)))
 (∃ m4, m4 < m1 ∧ I m4 out outN outC (IntKind.i64.wrap (x17 + (1 : Int))) w1)))
 (∃ m5, m5 < m1 ∧ I m5 out outN outC (IntKind.i64.wrap (x17 + (1 : Int))) w1)))
 (∃ m6, m6 < m1 ∧ I m6 out outN outC (IntKind.i64.wrap (x17 + (1 : Int))) w1))))
 (Q (.slice out outN outC) w1))))
theorem eq92 : ∀ (x : Option Addr) (flow : Int) (now : Int) (wait : Int) (w : World) (Q : Value → World → Prop), vcF PG TB Try.f92 (.s .nil (.s .nil (.s (.s .nil (.u (.loop [(9, 47), (17, 3)] .nil))) .nil))) [(.pointer x), (.int .i64 flow), (.int .i64 now), (.int .i64 wait)] w Q = N92 x flow now wait w Q := by intros; kernel_rfl
theorem call92 {x : Option Addr} {flow : Int} {now : Int} {wait : Int} {w : World} {Q : Value → World → Prop} (hN : N92 x flow now wait w Q) : CALL PG 92 [(.pointer x), (.int .i64 flow), (.int .i64 now), (.int .i64 wait)] w Q := calls_vc tabOk Try.func92 (by rw [eq92]; exact hN)

end Go.Br
