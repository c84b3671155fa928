/- What the code of some functions says, as the core reads it; each reading is checked by the kernel. -/
import Derived.Test.YtnmhgjfllknbpaaBrSeat
set_option linter.unusedVariables false
set_option maxRecDepth 100000
namespace Go.Br
open Go Go.Proofs

/-- (brougham/opt.Key).Option -/
def N54 (k : Int) (k1 : Bool) (k2 : Int) (w : World) (Q : Value → World → Prop) : Prop :=
 RUNA PG (Instr.box 143 (.agg #[(.int .u64 k), (.bool k1), (.int .u64 k2)])) w fun a1 w1 =>
 RUNA PG (Instr.alloc 139 true (.tuple #[])) w1 fun a2 w2 =>
 RDI PG (loadVar 25 (Addr.add a1 0)) .u64 w2 fun x5 =>
 CALL PG 46 [(.int .u64 x5)] w2 fun v w3 =>
 ∃ x6 : Int, ∃ x6v1 : Int, v = (.agg #[(.int .i64 x6), (.int .u64 x6v1)]) ∧
 (RUNL PG (Instr.buildSlice 162 1 #[(0, (.agg #[(.int .i64 x6), (.int .u64 x6v1)]))]) w3 fun x7 x7N x7C w4 =>
 CALL PG 45 [(.slice none 0 0), (.slice x7 x7N x7C)] w4 fun v1 w5 =>
 ∃ (x8 : Option Addr) (x8N x8C : Nat), v1 = (.slice x8 x8N x8C) ∧
 (RDB PG (loadVar 4 (Addr.add a1 1)) w5 fun x10 =>
 IFB x10
 (RDI PG (loadVar 25 (Addr.add (Addr.add a1 2) 0)) .u64 w5 fun x14 =>
 CALL PG 46 [(.int .u64 x14)] w5 fun v2 w6 =>
 ∃ x15 : Int, ∃ x15v1 : Int, v2 = (.agg #[(.int .i64 x15), (.int .u64 x15v1)]) ∧
 (RUNL PG (Instr.buildSlice 162 1 #[(0, (.agg #[(.int .i64 x15), (.int .u64 x15v1)]))]) w6 fun x16 x16N x16C w7 =>
 CALL PG 45 [(.slice x8 x8N x8C), (.slice x16 x16N x16C)] w7 fun v3 w8 =>
 ∃ (x17 : Option Addr) (x17N x17C : Nat), v3 = (.slice x17 x17N x17C) ∧
 (RD PG (Instr.build 139 #[(0, (.int .u8 (1 : Int))), (1, (.slice x17 x17N x17C))]) w8 fun v4 =>
 ∃ x19 : Int, ∃ (x19v1 : Option Addr) (x19N x19C : Nat), v4 = (.agg #[(.int .u8 x19), (.slice x19v1 x19N x19C)]) ∧
 (RUNU PG (storeVar 139 a2 (.agg #[(.int .u8 x19), (.slice x19v1 x19N x19C)])) w8 fun w9 =>
 RD PG (loadVar 139 a2) w9 fun v6 =>
 ∃ r : Int, ∃ (r1 : Option Addr) (rN rC : Nat), v6 = (.agg #[(.int .u8 r), (.slice r1 rN rC)]) ∧
 (Q (.agg #[(.int .u8 r), (.slice r1 rN rC)]) w9)))))
 (RD PG (Instr.build 139 #[(0, (.int .u8 (1 : Int))), (1, (.slice x8 x8N x8C))]) w5 fun v7 =>
 ∃ x19v2 : Int, ∃ (x19v3 : Option Addr) (x19N1 x19C1 : Nat), v7 = (.agg #[(.int .u8 x19v2), (.slice x19v3 x19N1 x19C1)]) ∧
 (RUNU PG (storeVar 139 a2 (.agg #[(.int .u8 x19v2), (.slice x19v3 x19N1 x19C1)])) w5 fun w10 =>
 RD PG (loadVar 139 a2) w10 fun v9 =>
 ∃ r2 : Int, ∃ (r3 : Option Addr) (rN1 rC1 : Nat), v9 = (.agg #[(.int .u8 r2), (.slice r3 rN1 rC1)]) ∧
 (Q (.agg #[(.int .u8 r2), (.slice r3 rN1 rC1)]) w10)))))
theorem eq54 : ∀ (k : Int) (k1 : Bool) (k2 : Int) (w : World) (Q : Value → World → Prop), vcF PG TB Try.f54 .nil [(.agg #[(.int .u64 k), (.bool k1), (.int .u64 k2)])] w Q = N54 k k1 k2 w Q := by intros; kernel_rfl
theorem call54 {k : Int} {k1 : Bool} {k2 : Int} {w : World} {Q : Value → World → Prop} (hN : N54 k k1 k2 w Q) : CALL PG 54 [(.agg #[(.int .u64 k), (.bool k1), (.int .u64 k2)])] w Q := calls_vc tabOk Try.func54 (by rw [eq54]; exact hN)

/-- brougham/seg.Encode -/
def N69 (s : Int) (s1 : Int) (s2 : Int) (s3 : Int) (s4 : Int) (s5 : Option Addr) (sN sC : Nat) (s6 : Option Addr) (sN1 sC1 : Nat) (w : World) (Q : Value → World → Prop) : Prop :=
 RUNA PG (Instr.box 151 (.agg #[(.int .u16 s), (.int .u16 s1), (.int .u32 s2), (.int .u32 s3), (.int .u8 s4), (.slice s5 sN sC), (.slice s6 sN1 sC1)])) w fun a1 w1 =>
 RD PG (loadVar 151 a1) w1 fun v =>
 ∃ x9 : Int, ∃ x9v1 : Int, ∃ x9v2 : Int, ∃ x9v3 : Int, ∃ x9v4 : Int, ∃ (x9v5 : Option Addr) (x9N x9C : Nat), ∃ (x9v6 : Option Addr) (x9N1 x9C1 : Nat), v = (.agg #[(.int .u16 x9), (.int .u16 x9v1), (.int .u32 x9v2), (.int .u32 x9v3), (.int .u8 x9v4), (.slice x9v5 x9N x9C), (.slice x9v6 x9N1 x9C1)]) ∧
 (CALL PG 73 [(.agg #[(.int .u16 x9), (.int .u16 x9v1), (.int .u32 x9v2), (.int .u32 x9v3), (.int .u8 x9v4), (.slice x9v5 x9N x9C), (.slice x9v6 x9N1 x9C1)])] w1 fun v1 w2 =>
 ∃ x10 : Int, v1 = (.int .i64 x10) ∧
 (LETI x10 fun e =>
 IFB (e != (0 : Int))
 (LETI e fun x3 =>
 Q (.tuple #[(.slice none 0 0), (.int .i64 x3)]) w2)
 (RDL PG (loadVar 149 (Addr.add a1 5)) w2 fun x15 x15N x15C =>
 ∃ I : Nat → Option Addr → Nat → Nat → Int → World → Prop,
 (∃ m, I m none 0 0 (0 : Int) w2) ∧
 (∀ m1 (opts : Option Addr) (optsN optsC : Nat) (x17 : Int) (w3 : World), I m1 opts optsN optsC x17 w3 → (IFB (decide (x17 < (x15N : Int)))
 (IDX x15 x15N x17 fun a19 =>
 RD PG (loadVar 139 (Addr.add a19 (Int.toNat x17 * 2))) w3 fun v2 =>
 ∃ x20 : Int, ∃ (x20v1 : Option Addr) (x20N x20C : Nat), v2 = (.agg #[(.int .u8 x20), (.slice x20v1 x20N x20C)]) ∧
 (RUNA PG (Instr.alloc 139 true (.tuple #[])) w3 fun a7 w4 =>
 RUNU PG (storeVar 139 a7 (.agg #[(.int .u8 x20), (.slice x20v1 x20N x20C)])) w4 fun w5 =>
 RDI PG (loadVar 5 (Addr.add a7 0)) .u8 w5 fun x23 =>
 RDL PG (loadVar 80 (Addr.add a7 1)) w5 fun x25 x25N x25C =>
 RUNL PG (Instr.buildSlice 80 2 #[(0, (.int .u8 x23)), (1, (.int .u8 (IntKind.u8.wrap (x25N : Int))))]) w5 fun x28 x28N x28C w6 =>
 RUNL PG (Builtin.append_ #[80, 80] 80 #[(.slice opts optsN optsC), (.slice x28 x28N x28C)]) w6 fun x29 x29N x29C w7 =>
 RDL PG (loadVar 80 (Addr.add a7 1)) w7 fun x32 x32N x32C =>
 RUNL PG (Builtin.append_ #[80, 80] 80 #[(.slice x29 x29N x29C), (.slice x32 x32N x32C)]) w7 fun x33 x33N x33C w8 =>
 ∃ m2, m2 < m1 ∧ I m2 x33 x33N x33C (IntKind.i64.wrap (x17 + (1 : Int))) w8))
 (RD PG (loadVar 151 a1) w3 fun v3 =>
 ∃ x35 : Int, ∃ x35v1 : Int, ∃ x35v2 : Int, ∃ x35v3 : Int, ∃ x35v4 : Int, ∃ (x35v5 : Option Addr) (x35N x35C : Nat), ∃ (x35v6 : Option Addr) (x35N1 x35C1 : Nat), v3 = (.agg #[(.int .u16 x35), (.int .u16 x35v1), (.int .u32 x35v2), (.int .u32 x35v3), (.int .u8 x35v4), (.slice x35v5 x35N x35C), (.slice x35v6 x35N1 x35C1)]) ∧
 (CALL PG 74 [(.agg #[(.int .u16 x35), (.int .u16 x35v1), (.int .u32 x35v2), (.int .u32 x35v3), (.int .u8 x35v4), (.slice x35v5 x35N x35C), (.slice x35v6 x35N1 x35C1)])] w3 fun v4 w9 =>
 ∃ (x36 : Option Addr) (x36N x36C : Nat), v4 = (.slice x36 x36N x36C) ∧
 (CALL PG 67 [(.int .u8 (IntKind.u8.wrap (optsN : Int)))] w9 fun v5 w10 =>
 ∃ x40 : Int, ∃ x40v1 : Int, v5 = (.agg #[(.int .i64 x40), (.int .u64 x40v1)]) ∧
 (RUNL PG (Instr.buildSlice 162 1 #[(0, (.agg #[(.int .i64 x40), (.int .u64 x40v1)]))]) w10 fun x41 x41N x41C w11 =>
 CALL PG 45 [(.slice x36 x36N x36C), (.slice x41 x41N x41C)] w11 fun v6 w12 =>
 ∃ (x42 : Option Addr) (x42N x42C : Nat), v6 = (.slice x42 x42N x42C) ∧
 (∃ S : World → Prop, S (w12.drew) ∧
 (RDSL PG (loadVar 80 (Addr.add a1 6)) S fun x47 x47N x47C =>
 RUNL PG (Builtin.append_ #[80, 80] 80 #[(.slice x42 x42N x42C), (.slice opts optsN optsC)]) (w12.drew) fun x45 x45N x45C w13 =>
 ∃ S1 : World → Prop, (∀ x, S1 x → S x) ∧ S1 w13 ∧
 (RUNL PG (Builtin.append_ #[80, 80] 80 #[(.slice x45 x45N x45C), (.slice x47 x47N x47C)]) w13 fun x48 x48N x48C w14 =>
 Q (.tuple #[(.slice x48 x48N x48C), (.int .i64 (0 : Int))]) w14))))))))))))
theorem eq69 : ∀ (s : Int) (s1 : Int) (s2 : Int) (s3 : Int) (s4 : Int) (s5 : Option Addr) (sN sC : Nat) (s6 : Option Addr) (sN1 sC1 : Nat) (w : World) (Q : Value → World → Prop), vcF PG TB Try.f69 (.s .nil (.s .nil (.s .nil (.s (.s .nil (.u (.loop [(5, 80), (17, 3)] .nil))) .nil)))) [(.agg #[(.int .u16 s), (.int .u16 s1), (.int .u32 s2), (.int .u32 s3), (.int .u8 s4), (.slice s5 sN sC), (.slice s6 sN1 sC1)])] w Q = N69 s s1 s2 s3 s4 s5 sN sC s6 sN1 sC1 w Q := by intros; kernel_rfl
theorem call69 {s : Int} {s1 : Int} {s2 : Int} {s3 : Int} {s4 : Int} {s5 : Option Addr} {sN sC : Nat} {s6 : Option Addr} {sN1 sC1 : Nat} {w : World} {Q : Value → World → Prop} (hN : N69 s s1 s2 s3 s4 s5 sN sC s6 sN1 sC1 w Q) : CALL PG 69 [(.agg #[(.int .u16 s), (.int .u16 s1), (.int .u32 s2), (.int .u32 s3), (.int .u8 s4), (.slice s5 sN sC), (.slice s6 sN1 sC1)])] w Q := calls_vc tabOk Try.func69 (by rw [eq69]; exact hN)

/-- brougham/seg.Of -/
def N70 (s : Int) (s1 : Int) (s2 : Int) (s3 : Int) (s4 : Int) (s5 : Option Addr) (sN sC : Nat) (s6 : Option Addr) (sN1 sC1 : Nat) (l : Option Addr) (lN lC : Nat) (w : World) (Q : Value → World → Prop) : Prop :=
 RUNA PG (Instr.box 151 (.agg #[(.int .u16 s), (.int .u16 s1), (.int .u32 s2), (.int .u32 s3), (.int .u8 s4), (.slice s5 sN sC), (.slice s6 sN1 sC1)])) w fun a2 w1 =>
 RUNA PG (Instr.alloc 151 true (.tuple #[])) w1 fun a4 w2 =>
 RUNL PG (Builtin.append_ #[149, 149] 149 #[(.slice none 0 0), (.slice l lN lC)]) w2 fun x6 x6N x6C w3 =>
 RUNU PG (storeVar 149 (Addr.add a2 5) (.slice x6 x6N x6C)) w3 fun w4 =>
 RD PG (loadVar 151 a2) w4 fun v =>
 ∃ x8 : Int, ∃ x8v1 : Int, ∃ x8v2 : Int, ∃ x8v3 : Int, ∃ x8v4 : Int, ∃ (x8v5 : Option Addr) (x8N x8C : Nat), ∃ (x8v6 : Option Addr) (x8N1 x8C1 : Nat), v = (.agg #[(.int .u16 x8), (.int .u16 x8v1), (.int .u32 x8v2), (.int .u32 x8v3), (.int .u8 x8v4), (.slice x8v5 x8N x8C), (.slice x8v6 x8N1 x8C1)]) ∧
 (RUNU PG (storeVar 151 a4 (.agg #[(.int .u16 x8), (.int .u16 x8v1), (.int .u32 x8v2), (.int .u32 x8v3), (.int .u8 x8v4), (.slice x8v5 x8N x8C), (.slice x8v6 x8N1 x8C1)])) w4 fun w5 =>
 RD PG (loadVar 151 a4) w5 fun v2 =>
 ∃ r : Int, ∃ r1 : Int, ∃ r2 : Int, ∃ r3 : Int, ∃ r4 : Int, ∃ (r5 : Option Addr) (rN rC : Nat), ∃ (r6 : Option Addr) (rN1 rC1 : Nat), v2 = (.agg #[(.int .u16 r), (.int .u16 r1), (.int .u32 r2), (.int .u32 r3), (.int .u8 r4), (.slice r5 rN rC), (.slice r6 rN1 rC1)]) ∧
 (Q (.agg #[(.int .u16 r), (.int .u16 r1), (.int .u32 r2), (.int .u32 r3), (.int .u8 r4), (.slice r5 rN rC), (.slice r6 rN1 rC1)]) w5))
theorem eq70 : ∀ (s : Int) (s1 : Int) (s2 : Int) (s3 : Int) (s4 : Int) (s5 : Option Addr) (sN sC : Nat) (s6 : Option Addr) (sN1 sC1 : Nat) (l : Option Addr) (lN lC : Nat) (w : World) (Q : Value → World → Prop), vcF PG TB Try.f70 .nil [(.agg #[(.int .u16 s), (.int .u16 s1), (.int .u32 s2), (.int .u32 s3), (.int .u8 s4), (.slice s5 sN sC), (.slice s6 sN1 sC1)]), (.slice l lN lC)] w Q = N70 s s1 s2 s3 s4 s5 sN sC s6 sN1 sC1 l lN lC w Q := by intros; kernel_rfl
theorem call70 {s : Int} {s1 : Int} {s2 : Int} {s3 : Int} {s4 : Int} {s5 : Option Addr} {sN sC : Nat} {s6 : Option Addr} {sN1 sC1 : Nat} {l : Option Addr} {lN lC : Nat} {w : World} {Q : Value → World → Prop} (hN : N70 s s1 s2 s3 s4 s5 sN sC s6 sN1 sC1 l lN lC w Q) : CALL PG 70 [(.agg #[(.int .u16 s), (.int .u16 s1), (.int .u32 s2), (.int .u32 s3), (.int .u8 s4), (.slice s5 sN sC), (.slice s6 sN1 sC1)]), (.slice l lN lC)] w Q := calls_vc tabOk Try.func70 (by rw [eq70]; exact hN)

/-- brougham/seg.Right -/
def N73 (s : Int) (s1 : Int) (s2 : Int) (s3 : Int) (s4 : Int) (s5 : Option Addr) (sN sC : Nat) (s6 : Option Addr) (sN1 sC1 : Nat) (w : World) (Q : Value → World → Prop) : Prop :=
 RUNA PG (Instr.box 151 (.agg #[(.int .u16 s), (.int .u16 s1), (.int .u32 s2), (.int .u32 s3), (.int .u8 s4), (.slice s5 sN sC), (.slice s6 sN1 sC1)])) w fun a1 w1 =>
 RDI PG (loadVar 5 (Addr.add a1 4)) .u8 w1 fun x7 =>
 IFB (decide (x7 > (7 : Int)))
 (Q (.int .i64 (70 : Int)) w1)
 (RDL PG (loadVar 149 (Addr.add a1 5)) w1 fun x10 x10N x10C =>
 ∃ I : Nat → Int → Int → World → Prop,
 (∃ m, I m (0 : Int) (0 : Int) w1) ∧
 (∀ m1 (n : Int) (x12 : Int) (w2 : World), I m1 n x12 w2 → (IFB (decide (x12 < (x10N : Int)))
 (IDX x10 x10N x12 fun a14 =>
 RD PG (loadVar 139 (Addr.add a14 (Int.toNat x12 * 2))) w2 fun v =>
 ∃ x15 : Int, ∃ (x15v1 : Option Addr) (x15N x15C : Nat), v = (.agg #[(.int .u8 x15), (.slice x15v1 x15N x15C)]) ∧
 (RUNA PG (Instr.alloc 139 true (.tuple #[])) w2 fun a5 w3 =>
 RUNU PG (storeVar 139 a5 (.agg #[(.int .u8 x15), (.slice x15v1 x15N x15C)])) w3 fun w4 =>
 RDI PG (loadVar 5 (Addr.add a5 0)) .u8 w4 fun x17 =>
 IFB (x17 == (0 : Int))
 (Q (.int .i64 (71 : Int)) w4)
 (RDL PG (loadVar 80 (Addr.add a5 1)) w4 fun x21 x21N x21C =>
 IFB (decide ((x21N : Int) > (255 : Int)))
 (Q (.int .i64 (71 : Int)) w4)
 (RDL PG (loadVar 80 (Addr.add a5 1)) w4 fun x27 x27N x27C =>
 LETI (IntKind.i64.wrap (n + (IntKind.i64.wrap ((2 : Int) + (x27N : Int))))) fun n1 =>
 IFB (decide (n1 > (200 : Int)))
 (Q (.int .i64 (71 : Int)) w4)
 (∃ m2, m2 < m1 ∧ I m2 n1 (IntKind.i64.wrap (x12 + (1 : Int))) w4)))))
 (RDL PG (loadVar 80 (Addr.add a1 6)) w2 fun x35 x35N x35C =>
 IFB (decide ((x35N : Int) > (1024 : Int)))
 (Q (.int .i64 (72 : Int)) w2)
 (Q (.int .i64 (0 : Int)) w2)))))
theorem eq73 : ∀ (s : Int) (s1 : Int) (s2 : Int) (s3 : Int) (s4 : Int) (s5 : Option Addr) (sN sC : Nat) (s6 : Option Addr) (sN1 sC1 : Nat) (w : World) (Q : Value → World → Prop), vcF PG TB Try.f73 (.s .nil (.s .nil (.s .nil (.s (.s .nil (.u (.loop [(3, 3), (12, 3)] .nil))) .nil)))) [(.agg #[(.int .u16 s), (.int .u16 s1), (.int .u32 s2), (.int .u32 s3), (.int .u8 s4), (.slice s5 sN sC), (.slice s6 sN1 sC1)])] w Q = N73 s s1 s2 s3 s4 s5 sN sC s6 sN1 sC1 w Q := by intros; kernel_rfl
theorem call73 {s : Int} {s1 : Int} {s2 : Int} {s3 : Int} {s4 : Int} {s5 : Option Addr} {sN sC : Nat} {s6 : Option Addr} {sN1 sC1 : Nat} {w : World} {Q : Value → World → Prop} (hN : N73 s s1 s2 s3 s4 s5 sN sC s6 sN1 sC1 w Q) : CALL PG 73 [(.agg #[(.int .u16 s), (.int .u16 s1), (.int .u32 s2), (.int .u32 s3), (.int .u8 s4), (.slice s5 sN sC), (.slice s6 sN1 sC1)])] w Q := calls_vc tabOk Try.func73 (by rw [eq73]; exact hN)

/-- brougham/seg.Header -/
def N74 (s : Int) (s1 : Int) (s2 : Int) (s3 : Int) (s4 : Int) (s5 : Option Addr) (sN sC : Nat) (s6 : Option Addr) (sN1 sC1 : Nat) (w : World) (Q : Value → World → Prop) : Prop :=
 RUNA PG (Instr.box 151 (.agg #[(.int .u16 s), (.int .u16 s1), (.int .u32 s2), (.int .u32 s3), (.int .u8 s4), (.slice s5 sN sC), (.slice s6 sN1 sC1)])) w fun a1 w1 =>
 ∃ S : World → Prop, S (w1.drew) ∧
 (RDSI PG (loadVar 70 (Addr.add a1 0)) .u16 S fun x4 =>
 RDSI PG (loadVar 70 (Addr.add a1 1)) .u16 S fun x7 =>
 RDSI PG (loadVar 77 (Addr.add a1 2)) .u32 S fun x10 =>
 RDSI PG (loadVar 77 (Addr.add a1 3)) .u32 S fun x13 =>
 RDSI PG (loadVar 5 (Addr.add a1 4)) .u8 S fun x16 =>
 CALL PG 76 [(.int .u16 x4)] (w1.drew) fun v w2 =>
 ∃ x5 : Int, ∃ x5v1 : Int, v = (.agg #[(.int .i64 x5), (.int .u64 x5v1)]) ∧
 (∃ S1 : World → Prop, (∀ x, S1 x → S x) ∧ S1 w2 ∧
 (CALL PG 76 [(.int .u16 x7)] w2 fun v1 w3 =>
 ∃ x8 : Int, ∃ x8v1 : Int, v1 = (.agg #[(.int .i64 x8), (.int .u64 x8v1)]) ∧
 (∃ S2 : World → Prop, (∀ x, S2 x → S1 x) ∧ S2 w3 ∧
 (CALL PG 66 [(.int .u32 x10)] w3 fun v2 w4 =>
 ∃ x11 : Int, ∃ x11v1 : Int, v2 = (.agg #[(.int .i64 x11), (.int .u64 x11v1)]) ∧
 (∃ S3 : World → Prop, (∀ x, S3 x → S2 x) ∧ S3 w4 ∧
 (CALL PG 66 [(.int .u32 x13)] w4 fun v3 w5 =>
 ∃ x14 : Int, ∃ x14v1 : Int, v3 = (.agg #[(.int .i64 x14), (.int .u64 x14v1)]) ∧
 (∃ S4 : World → Prop, (∀ x, S4 x → S3 x) ∧ S4 w5 ∧
 (CALL PG 67 [(.int .u8 x16)] w5 fun v4 w6 =>
 ∃ x17 : Int, ∃ x17v1 : Int, v4 = (.agg #[(.int .i64 x17), (.int .u64 x17v1)]) ∧
 (RUNL PG (Instr.buildSlice 162 5 #[(0, (.agg #[(.int .i64 x5), (.int .u64 x5v1)])), (1, (.agg #[(.int .i64 x8), (.int .u64 x8v1)])), (2, (.agg #[(.int .i64 x11), (.int .u64 x11v1)])), (3, (.agg #[(.int .i64 x14), (.int .u64 x14v1)])), (4, (.agg #[(.int .i64 x17), (.int .u64 x17v1)]))]) w6 fun x18 x18N x18C w7 =>
 CALL PG 45 [(.slice none 0 0), (.slice x18 x18N x18C)] w7 fun v5 w8 =>
 ∃ (x19 : Option Addr) (x19N x19C : Nat), v5 = (.slice x19 x19N x19C) ∧
 (Q (.slice x19 x19N x19C) w8)))))))))))
theorem eq74 : ∀ (s : Int) (s1 : Int) (s2 : Int) (s3 : Int) (s4 : Int) (s5 : Option Addr) (sN sC : Nat) (s6 : Option Addr) (sN1 sC1 : Nat) (w : World) (Q : Value → World → Prop), vcF PG TB Try.f74 .nil [(.agg #[(.int .u16 s), (.int .u16 s1), (.int .u32 s2), (.int .u32 s3), (.int .u8 s4), (.slice s5 sN sC), (.slice s6 sN1 sC1)])] w Q = N74 s s1 s2 s3 s4 s5 sN sC s6 sN1 sC1 w Q := by intros; kernel_rfl
theorem call74 {s : Int} {s1 : Int} {s2 : Int} {s3 : Int} {s4 : Int} {s5 : Option Addr} {sN sC : Nat} {s6 : Option Addr} {sN1 sC1 : Nat} {w : World} {Q : Value → World → Prop} (hN : N74 s s1 s2 s3 s4 s5 sN sC s6 sN1 sC1 w Q) : CALL PG 74 [(.agg #[(.int .u16 s), (.int .u16 s1), (.int .u32 s2), (.int .u32 s3), (.int .u8 s4), (.slice s5 sN sC), (.slice s6 sN1 sC1)])] w Q := calls_vc tabOk Try.func74 (by rw [eq74]; exact hN)

end Go.Br
