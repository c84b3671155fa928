/- What the code of some functions says, as the core reads it; each reading is checked by the kernel. -/
import Derived.Test.YtggcccfdckeooaaGreatBrSeat
set_option linter.unusedVariables false
set_option maxRecDepth 100000
namespace Go.Br
open Go Go.Proofs

/-- brougham/broughamref08.Key -/
def N20 (key : Int) (tag : Int) (answer : Bool) (w : World) (Q : Value → World → Prop) : Prop :=
 CALL PG 44 [(.slice none 0 0), (.int .u64 key), (.int .i64 (8 : Int))] w fun v w1 =>
 ∃ (x9 : Option Addr) (x9N x9C : Nat), v = (.slice x9 x9N x9C) ∧
 (IFB answer
 (CALL PG 44 [(.slice x9 x9N x9C), (.int .u64 tag), (.int .i64 (8 : Int))] w1 fun v1 w2 =>
 ∃ (x13 : Option Addr) (x13N x13C : Nat), v1 = (.slice x13 x13N x13C) ∧
 (Q (.slice x13 x13N x13C) w2))
 (Q (.slice x9 x9N x9C) w1))
theorem eq20 : ∀ (key : Int) (tag : Int) (answer : Bool) (w : World) (Q : Value → World → Prop), vcF PG TB Tryz.f20 .nil [(.int .u64 key), (.int .u64 tag), (.bool answer)] w Q = N20 key tag answer w Q := by intros; kernel_rfl
theorem call20 {key : Int} {tag : Int} {answer : Bool} {w : World} {Q : Value → World → Prop} (hN : N20 key tag answer w Q) : CALL PG 20 [(.int .u64 key), (.int .u64 tag), (.bool answer)] w Q := calls_vc tabOk Tryz.func20 (by rw [eq20]; exact hN)

/-- brougham/broughamref07.Encode -/
def N21 (s : Int) (s1 : Int) (s2 : Int) (s3 : Int) (s4 : Int) (s5 : Option Addr) (sN sC : Nat) (s6 : Option Addr) (sN1 sC1 : Nat) (w : World) (Q : Value → World → Prop) : Prop :=
 RUNA PG (Instr.box 70 (.agg #[(.int .u16 s), (.int .u16 s1), (.int .u32 s2), (.int .u32 s3), (.int .u8 s4), (.slice s5 sN sC), (.slice s6 sN1 sC1)])) w fun a1 w1 =>
 RD PG (loadVar 70 a1) w1 fun v =>
 ∃ x8 : Int, ∃ x8v1 : Int, ∃ x8v2 : Int, ∃ x8v3 : Int, ∃ x8v4 : Int, ∃ (x8v5 : Option Addr) (x8N x8C : Nat), ∃ (x8v6 : Option Addr) (x8N1 x8C1 : Nat), v = (.agg #[(.int .u16 x8), (.int .u16 x8v1), (.int .u32 x8v2), (.int .u32 x8v3), (.int .u8 x8v4), (.slice x8v5 x8N x8C), (.slice x8v6 x8N1 x8C1)]) ∧
 (CALL PG 45 [(.agg #[(.int .u16 x8), (.int .u16 x8v1), (.int .u32 x8v2), (.int .u32 x8v3), (.int .u8 x8v4), (.slice x8v5 x8N x8C), (.slice x8v6 x8N1 x8C1)])] w1 fun v1 w2 =>
 ∃ x9 : Int, v1 = (.int .i64 x9) ∧
 (LETI x9 fun e =>
 IFB (e != (0 : Int))
 (LETI e fun x3 =>
 Q (.tuple #[(.slice none 0 0), (.int .i64 x3)]) w2)
 (∃ I : Nat → Option Addr → Nat → Nat → Int → World → Prop,
 (∃ m, I m none 0 0 (0 : Int) w2) ∧
 (∀ m1 (opts : Option Addr) (optsN optsC : Nat) (i : Int) (w3 : World), I m1 opts optsN optsC i w3 → (RDL PG (loadVar 68 (Addr.add a1 5)) w3 fun x15 x15N x15C =>
 IFB (decide (i < (x15N : Int)))
 (RDL PG (loadVar 68 (Addr.add a1 5)) (w3.drew) fun x22 x22N x22C =>
 IDX x22 x22N i fun a24 =>
 RDI PG (loadVar 5 (Addr.add (Addr.add a24 (Int.toNat i * 2)) 0)) .u8 (w3.drew) fun x26 =>
 RDL PG (loadVar 68 (Addr.add a1 5)) (w3.drew) fun x28 x28N x28C =>
 IDX x28 x28N i fun a30 =>
 RDL PG (loadVar 64 (Addr.add (Addr.add a30 (Int.toNat i * 2)) 1)) (w3.drew) fun x32 x32N x32C =>
 RUNL PG (Instr.buildSlice 64 2 #[(0, (.int .u8 x26)), (1, (.int .u8 (IntKind.u8.wrap (x32N : Int))))]) (w3.drew) fun x35 x35N x35C w4 =>
 RUNL PG (Builtin.append_ #[64, 64] 64 #[(.slice opts optsN optsC), (.slice x35 x35N x35C)]) w4 fun x36 x36N x36C w5 =>
 RDL PG (loadVar 68 (Addr.add a1 5)) w5 fun x39 x39N x39C =>
 IDX x39 x39N i fun a41 =>
 RDL PG (loadVar 64 (Addr.add (Addr.add a41 (Int.toNat i * 2)) 1)) w5 fun x43 x43N x43C =>
 RUNL PG (Builtin.append_ #[64, 64] 64 #[(.slice x36 x36N x36C), (.slice x43 x43N x43C)]) w5 fun x44 x44N x44C w6 =>
 LETI (IntKind.i64.wrap (i + (1 : Int))) fun i1 =>
 ∃ m2, m2 < m1 ∧ I m2 x44 x44N x44C i1 w6)
 (RD PG (loadVar 70 a1) w3 fun v2 =>
 ∃ x45 : Int, ∃ x45v1 : Int, ∃ x45v2 : Int, ∃ x45v3 : Int, ∃ x45v4 : Int, ∃ (x45v5 : Option Addr) (x45N x45C : Nat), ∃ (x45v6 : Option Addr) (x45N1 x45C1 : Nat), v2 = (.agg #[(.int .u16 x45), (.int .u16 x45v1), (.int .u32 x45v2), (.int .u32 x45v3), (.int .u8 x45v4), (.slice x45v5 x45N x45C), (.slice x45v6 x45N1 x45C1)]) ∧
 (CALL PG 46 [(.agg #[(.int .u16 x45), (.int .u16 x45v1), (.int .u32 x45v2), (.int .u32 x45v3), (.int .u8 x45v4), (.slice x45v5 x45N x45C), (.slice x45v6 x45N1 x45C1)])] w3 fun v3 w7 =>
 ∃ (x46 : Option Addr) (x46N x46C : Nat), v3 = (.slice x46 x46N x46C) ∧
 (RUNL PG (Instr.buildSlice 64 1 #[(0, (.int .u8 (IntKind.u8.wrap (optsN : Int))))]) w7 fun x50 x50N x50C w8 =>
 RUNL PG (Builtin.append_ #[64, 64] 64 #[(.slice x46 x46N x46C), (.slice x50 x50N x50C)]) w8 fun x51 x51N x51C w9 =>
 ∃ S : World → Prop, S (w9.drew) ∧
 (RDSL PG (loadVar 64 (Addr.add a1 6)) S fun x56 x56N x56C =>
 RUNL PG (Builtin.append_ #[64, 64] 64 #[(.slice x51 x51N x51C), (.slice opts optsN optsC)]) (w9.drew) fun x54 x54N x54C w10 =>
 ∃ S1 : World → Prop, (∀ x, S1 x → S x) ∧ S1 w10 ∧
 (RUNL PG (Builtin.append_ #[64, 64] 64 #[(.slice x54 x54N x54C), (.slice x56 x56N x56C)]) w10 fun x57 x57N x57C w11 =>
 Q (.tuple #[(.slice x57 x57N x57C), (.int .i64 (0 : Int))]) w11))))))))))
theorem eq21 : ∀ (s : Int) (s1 : Int) (s2 : Int) (s3 : Int) (s4 : Int) (s5 : Option Addr) (sN sC : Nat) (s6 : Option Addr) (sN1 sC1 : Nat) (w : World) (Q : Value → World → Prop), vcF PG TB Tryz.f21 (.s .nil (.s .nil (.s .nil (.s .nil (.s (.s .nil (.u (.loop [(5, 64), (6, 3)] .nil))) .nil))))) [(.agg #[(.int .u16 s), (.int .u16 s1), (.int .u32 s2), (.int .u32 s3), (.int .u8 s4), (.slice s5 sN sC), (.slice s6 sN1 sC1)])] w Q = N21 s s1 s2 s3 s4 s5 sN sC s6 sN1 sC1 w Q := by intros; kernel_rfl
theorem call21 {s : Int} {s1 : Int} {s2 : Int} {s3 : Int} {s4 : Int} {s5 : Option Addr} {sN sC : Nat} {s6 : Option Addr} {sN1 sC1 : Nat} {w : World} {Q : Value → World → Prop} (hN : N21 s s1 s2 s3 s4 s5 sN sC s6 sN1 sC1 w Q) : CALL PG 21 [(.agg #[(.int .u16 s), (.int .u16 s1), (.int .u32 s2), (.int .u32 s3), (.int .u8 s4), (.slice s5 sN sC), (.slice s6 sN1 sC1)])] w Q := calls_vc tabOk Tryz.func21 (by rw [eq21]; exact hN)

/-- brougham/broughamref07.Right -/
def N45 (s : Int) (s1 : Int) (s2 : Int) (s3 : Int) (s4 : Int) (s5 : Option Addr) (sN sC : Nat) (s6 : Option Addr) (sN1 sC1 : Nat) (w : World) (Q : Value → World → Prop) : Prop :=
 RUNA PG (Instr.box 70 (.agg #[(.int .u16 s), (.int .u16 s1), (.int .u32 s2), (.int .u32 s3), (.int .u8 s4), (.slice s5 sN sC), (.slice s6 sN1 sC1)])) w fun a1 w1 =>
 RDI PG (loadVar 5 (Addr.add a1 4)) .u8 w1 fun x6 =>
 IFB (decide (x6 > (7 : Int)))
 (Q (.int .i64 (70 : Int)) w1)
 (∃ I : Nat → Int → Int → World → Prop,
 (∃ m, I m (0 : Int) (0 : Int) w1) ∧
 (∀ m1 (n : Int) (i : Int) (w2 : World), I m1 n i w2 → (RDL PG (loadVar 68 (Addr.add a1 5)) w2 fun x10 x10N x10C =>
 IFB (decide (i < (x10N : Int)))
 (RDL PG (loadVar 68 (Addr.add a1 5)) w2 fun x16 x16N x16C =>
 IDX x16 x16N i fun a18 =>
 RDI PG (loadVar 5 (Addr.add (Addr.add a18 (Int.toNat i * 2)) 0)) .u8 w2 fun x20 =>
 IFB (x20 == (0 : Int))
 (Q (.int .i64 (71 : Int)) w2)
 (RDL PG (loadVar 68 (Addr.add a1 5)) w2 fun x24 x24N x24C =>
 IDX x24 x24N i fun a26 =>
 RDL PG (loadVar 64 (Addr.add (Addr.add a26 (Int.toNat i * 2)) 1)) w2 fun x28 x28N x28C =>
 IFB (decide ((x28N : Int) > (255 : Int)))
 (Q (.int .i64 (71 : Int)) w2)
 (IFB (decide (n > (200 : Int)))
 (Q (.int .i64 (71 : Int)) w2)
 (RDL PG (loadVar 68 (Addr.add a1 5)) w2 fun x38 x38N x38C =>
 IDX x38 x38N i fun a40 =>
 RDL PG (loadVar 64 (Addr.add (Addr.add a40 (Int.toNat i * 2)) 1)) w2 fun x42 x42N x42C =>
 LETI (IntKind.i64.wrap (n + (IntKind.i64.wrap ((2 : Int) + (x42N : Int))))) fun n1 =>
 LETI (IntKind.i64.wrap (i + (1 : Int))) fun i1 =>
 ∃ m2, m2 < m1 ∧ I m2 n1 i1 w2))))
 (IFB (decide (n > (200 : Int)))
 (Q (.int .i64 (71 : Int)) w2)
 (RDL PG (loadVar 64 (Addr.add a1 6)) w2 fun x49 x49N x49C =>
 IFB (decide ((x49N : Int) > (1024 : Int)))
 (Q (.int .i64 (72 : Int)) w2)
 (Q (.int .i64 (0 : Int)) w2))))))
theorem eq45 : ∀ (s : Int) (s1 : Int) (s2 : Int) (s3 : Int) (s4 : Int) (s5 : Option Addr) (sN sC : Nat) (s6 : Option Addr) (sN1 sC1 : Nat) (w : World) (Q : Value → World → Prop), vcF PG TB Tryz.f45 (.s .nil (.s .nil (.s .nil (.s (.s .nil (.u (.loop [(3, 3), (4, 3)] .nil))) .nil)))) [(.agg #[(.int .u16 s), (.int .u16 s1), (.int .u32 s2), (.int .u32 s3), (.int .u8 s4), (.slice s5 sN sC), (.slice s6 sN1 sC1)])] w Q = N45 s s1 s2 s3 s4 s5 sN sC s6 sN1 sC1 w Q := by intros; kernel_rfl
theorem call45 {s : Int} {s1 : Int} {s2 : Int} {s3 : Int} {s4 : Int} {s5 : Option Addr} {sN sC : Nat} {s6 : Option Addr} {sN1 sC1 : Nat} {w : World} {Q : Value → World → Prop} (hN : N45 s s1 s2 s3 s4 s5 sN sC s6 sN1 sC1 w Q) : CALL PG 45 [(.agg #[(.int .u16 s), (.int .u16 s1), (.int .u32 s2), (.int .u32 s3), (.int .u8 s4), (.slice s5 sN sC), (.slice s6 sN1 sC1)])] w Q := calls_vc tabOk Tryz.func45 (by rw [eq45]; exact hN)

/-- brougham/broughamref07.Header -/
def N46 (s : Int) (s1 : Int) (s2 : Int) (s3 : Int) (s4 : Int) (s5 : Option Addr) (sN sC : Nat) (s6 : Option Addr) (sN1 sC1 : Nat) (w : World) (Q : Value → World → Prop) : Prop :=
 RUNA PG (Instr.box 70 (.agg #[(.int .u16 s), (.int .u16 s1), (.int .u32 s2), (.int .u32 s3), (.int .u8 s4), (.slice s5 sN sC), (.slice s6 sN1 sC1)])) w fun a1 w1 =>
 RDI PG (loadVar 28 (Addr.add a1 0)) .u16 w1 fun x5 =>
 CALL PG 44 [(.slice none 0 0), (.int .u64 (IntKind.u64.wrap x5)), (.int .i64 (2 : Int))] w1 fun v w2 =>
 ∃ (x7 : Option Addr) (x7N x7C : Nat), v = (.slice x7 x7N x7C) ∧
 (RDI PG (loadVar 28 (Addr.add a1 1)) .u16 w2 fun x10 =>
 CALL PG 44 [(.slice x7 x7N x7C), (.int .u64 (IntKind.u64.wrap x10)), (.int .i64 (2 : Int))] w2 fun v1 w3 =>
 ∃ (x12 : Option Addr) (x12N x12C : Nat), v1 = (.slice x12 x12N x12C) ∧
 (RDI PG (loadVar 62 (Addr.add a1 2)) .u32 w3 fun x15 =>
 CALL PG 44 [(.slice x12 x12N x12C), (.int .u64 (IntKind.u64.wrap x15)), (.int .i64 (4 : Int))] w3 fun v2 w4 =>
 ∃ (x17 : Option Addr) (x17N x17C : Nat), v2 = (.slice x17 x17N x17C) ∧
 (RDI PG (loadVar 62 (Addr.add a1 3)) .u32 w4 fun x20 =>
 CALL PG 44 [(.slice x17 x17N x17C), (.int .u64 (IntKind.u64.wrap x20)), (.int .i64 (4 : Int))] w4 fun v3 w5 =>
 ∃ (x22 : Option Addr) (x22N x22C : Nat), v3 = (.slice x22 x22N x22C) ∧
 (RDI PG (loadVar 5 (Addr.add a1 4)) .u8 w5 fun x25 =>
 RUNL PG (Instr.buildSlice 64 1 #[(0, (.int .u8 x25))]) w5 fun x26 x26N x26C w6 =>
 RUNL PG (Builtin.append_ #[64, 64] 64 #[(.slice x22 x22N x22C), (.slice x26 x26N x26C)]) w6 fun x27 x27N x27C w7 =>
 Q (.slice x27 x27N x27C) w7))))
theorem eq46 : ∀ (s : Int) (s1 : Int) (s2 : Int) (s3 : Int) (s4 : Int) (s5 : Option Addr) (sN sC : Nat) (s6 : Option Addr) (sN1 sC1 : Nat) (w : World) (Q : Value → World → Prop), vcF PG TB Tryz.f46 .nil [(.agg #[(.int .u16 s), (.int .u16 s1), (.int .u32 s2), (.int .u32 s3), (.int .u8 s4), (.slice s5 sN sC), (.slice s6 sN1 sC1)])] w Q = N46 s s1 s2 s3 s4 s5 sN sC s6 sN1 sC1 w Q := by intros; kernel_rfl
theorem call46 {s : Int} {s1 : Int} {s2 : Int} {s3 : Int} {s4 : Int} {s5 : Option Addr} {sN sC : Nat} {s6 : Option Addr} {sN1 sC1 : Nat} {w : World} {Q : Value → World → Prop} (hN : N46 s s1 s2 s3 s4 s5 sN sC s6 sN1 sC1 w Q) : CALL PG 46 [(.agg #[(.int .u16 s), (.int .u16 s1), (.int .u32 s2), (.int .u32 s3), (.int .u8 s4), (.slice s5 sN sC), (.slice s6 sN1 sC1)])] w Q := calls_vc tabOk Tryz.func46 (by rw [eq46]; exact hN)

/-- (brougham/opt.Key).Option -/
def N113 (k : Int) (k1 : Bool) (k2 : Int) (w : World) (Q : Value → World → Prop) : Prop :=
 RUNA PG (Instr.box 198 (.agg #[(.int .u64 k), (.bool k1), (.int .u64 k2)])) w fun a1 w1 =>
 RUNA PG (Instr.alloc 67 true (.tuple #[])) w1 fun a2 w2 =>
 RDI PG (loadVar 25 (Addr.add a1 0)) .u64 w2 fun x5 =>
 CALL PG 43 [(.int .u64 x5)] w2 fun v w3 =>
 ∃ x6 : Int, ∃ x6v1 : Int, v = (.agg #[(.int .i64 x6), (.int .u64 x6v1)]) ∧
 (RUNL PG (Instr.buildSlice 174 1 #[(0, (.agg #[(.int .i64 x6), (.int .u64 x6v1)]))]) w3 fun x7 x7N x7C w4 =>
 CALL PG 42 [(.slice none 0 0), (.slice x7 x7N x7C)] w4 fun v1 w5 =>
 ∃ (x8 : Option Addr) (x8N x8C : Nat), v1 = (.slice x8 x8N x8C) ∧
 (RDB PG (loadVar 4 (Addr.add a1 1)) w5 fun x10 =>
 IFB x10
 (RDI PG (loadVar 25 (Addr.add (Addr.add a1 2) 0)) .u64 w5 fun x14 =>
 CALL PG 43 [(.int .u64 x14)] w5 fun v2 w6 =>
 ∃ x15 : Int, ∃ x15v1 : Int, v2 = (.agg #[(.int .i64 x15), (.int .u64 x15v1)]) ∧
 (RUNL PG (Instr.buildSlice 174 1 #[(0, (.agg #[(.int .i64 x15), (.int .u64 x15v1)]))]) w6 fun x16 x16N x16C w7 =>
 CALL PG 42 [(.slice x8 x8N x8C), (.slice x16 x16N x16C)] w7 fun v3 w8 =>
 ∃ (x17 : Option Addr) (x17N x17C : Nat), v3 = (.slice x17 x17N x17C) ∧
 (RD PG (Instr.build 67 #[(0, (.int .u8 (1 : Int))), (1, (.slice x17 x17N x17C))]) w8 fun v4 =>
 ∃ x19 : Int, ∃ (x19v1 : Option Addr) (x19N x19C : Nat), v4 = (.agg #[(.int .u8 x19), (.slice x19v1 x19N x19C)]) ∧
 (RUNU PG (storeVar 67 a2 (.agg #[(.int .u8 x19), (.slice x19v1 x19N x19C)])) w8 fun w9 =>
 RD PG (loadVar 67 a2) w9 fun v6 =>
 ∃ r : Int, ∃ (r1 : Option Addr) (rN rC : Nat), v6 = (.agg #[(.int .u8 r), (.slice r1 rN rC)]) ∧
 (Q (.agg #[(.int .u8 r), (.slice r1 rN rC)]) w9)))))
 (RD PG (Instr.build 67 #[(0, (.int .u8 (1 : Int))), (1, (.slice x8 x8N x8C))]) w5 fun v7 =>
 ∃ x19v2 : Int, ∃ (x19v3 : Option Addr) (x19N1 x19C1 : Nat), v7 = (.agg #[(.int .u8 x19v2), (.slice x19v3 x19N1 x19C1)]) ∧
 (RUNU PG (storeVar 67 a2 (.agg #[(.int .u8 x19v2), (.slice x19v3 x19N1 x19C1)])) w5 fun w10 =>
 RD PG (loadVar 67 a2) w10 fun v9 =>
 ∃ r2 : Int, ∃ (r3 : Option Addr) (rN1 rC1 : Nat), v9 = (.agg #[(.int .u8 r2), (.slice r3 rN1 rC1)]) ∧
 (Q (.agg #[(.int .u8 r2), (.slice r3 rN1 rC1)]) w10)))))
theorem eq113 : ∀ (k : Int) (k1 : Bool) (k2 : Int) (w : World) (Q : Value → World → Prop), vcF PG TB Tryz.f113 .nil [(.agg #[(.int .u64 k), (.bool k1), (.int .u64 k2)])] w Q = N113 k k1 k2 w Q := by intros; kernel_rfl
theorem call113 {k : Int} {k1 : Bool} {k2 : Int} {w : World} {Q : Value → World → Prop} (hN : N113 k k1 k2 w Q) : CALL PG 113 [(.agg #[(.int .u64 k), (.bool k1), (.int .u64 k2)])] w Q := calls_vc tabOk Tryz.func113 (by rw [eq113]; exact hN)

/-- brougham/seg.Of -/
def N135 (s : Int) (s1 : Int) (s2 : Int) (s3 : Int) (s4 : Int) (s5 : Option Addr) (sN sC : Nat) (s6 : Option Addr) (sN1 sC1 : Nat) (l : Option Addr) (lN lC : Nat) (w : World) (Q : Value → World → Prop) : Prop :=
 RUNA PG (Instr.box 70 (.agg #[(.int .u16 s), (.int .u16 s1), (.int .u32 s2), (.int .u32 s3), (.int .u8 s4), (.slice s5 sN sC), (.slice s6 sN1 sC1)])) w fun a2 w1 =>
 RUNA PG (Instr.alloc 70 true (.tuple #[])) w1 fun a4 w2 =>
 RUNL PG (Builtin.append_ #[68, 68] 68 #[(.slice none 0 0), (.slice l lN lC)]) w2 fun x6 x6N x6C w3 =>
 RUNU PG (storeVar 68 (Addr.add a2 5) (.slice x6 x6N x6C)) w3 fun w4 =>
 RD PG (loadVar 70 a2) w4 fun v =>
 ∃ x8 : Int, ∃ x8v1 : Int, ∃ x8v2 : Int, ∃ x8v3 : Int, ∃ x8v4 : Int, ∃ (x8v5 : Option Addr) (x8N x8C : Nat), ∃ (x8v6 : Option Addr) (x8N1 x8C1 : Nat), v = (.agg #[(.int .u16 x8), (.int .u16 x8v1), (.int .u32 x8v2), (.int .u32 x8v3), (.int .u8 x8v4), (.slice x8v5 x8N x8C), (.slice x8v6 x8N1 x8C1)]) ∧
 (RUNU PG (storeVar 70 a4 (.agg #[(.int .u16 x8), (.int .u16 x8v1), (.int .u32 x8v2), (.int .u32 x8v3), (.int .u8 x8v4), (.slice x8v5 x8N x8C), (.slice x8v6 x8N1 x8C1)])) w4 fun w5 =>
 RD PG (loadVar 70 a4) w5 fun v2 =>
 ∃ r : Int, ∃ r1 : Int, ∃ r2 : Int, ∃ r3 : Int, ∃ r4 : Int, ∃ (r5 : Option Addr) (rN rC : Nat), ∃ (r6 : Option Addr) (rN1 rC1 : Nat), v2 = (.agg #[(.int .u16 r), (.int .u16 r1), (.int .u32 r2), (.int .u32 r3), (.int .u8 r4), (.slice r5 rN rC), (.slice r6 rN1 rC1)]) ∧
 (Q (.agg #[(.int .u16 r), (.int .u16 r1), (.int .u32 r2), (.int .u32 r3), (.int .u8 r4), (.slice r5 rN rC), (.slice r6 rN1 rC1)]) w5))
theorem eq135 : ∀ (s : Int) (s1 : Int) (s2 : Int) (s3 : Int) (s4 : Int) (s5 : Option Addr) (sN sC : Nat) (s6 : Option Addr) (sN1 sC1 : Nat) (l : Option Addr) (lN lC : Nat) (w : World) (Q : Value → World → Prop), vcF PG TB Tryz.f135 .nil [(.agg #[(.int .u16 s), (.int .u16 s1), (.int .u32 s2), (.int .u32 s3), (.int .u8 s4), (.slice s5 sN sC), (.slice s6 sN1 sC1)]), (.slice l lN lC)] w Q = N135 s s1 s2 s3 s4 s5 sN sC s6 sN1 sC1 l lN lC w Q := by intros; kernel_rfl
theorem call135 {s : Int} {s1 : Int} {s2 : Int} {s3 : Int} {s4 : Int} {s5 : Option Addr} {sN sC : Nat} {s6 : Option Addr} {sN1 sC1 : Nat} {l : Option Addr} {lN lC : Nat} {w : World} {Q : Value → World → Prop} (hN : N135 s s1 s2 s3 s4 s5 sN sC s6 sN1 sC1 l lN lC w Q) : CALL PG 135 [(.agg #[(.int .u16 s), (.int .u16 s1), (.int .u32 s2), (.int .u32 s3), (.int .u8 s4), (.slice s5 sN sC), (.slice s6 sN1 sC1)]), (.slice l lN lC)] w Q := calls_vc tabOk Tryz.func135 (by rw [eq135]; exact hN)

/-- brougham/seg.Encode -/
def N137 (s : Int) (s1 : Int) (s2 : Int) (s3 : Int) (s4 : Int) (s5 : Option Addr) (sN sC : Nat) (s6 : Option Addr) (sN1 sC1 : Nat) (w : World) (Q : Value → World → Prop) : Prop :=
 RUNA PG (Instr.box 70 (.agg #[(.int .u16 s), (.int .u16 s1), (.int .u32 s2), (.int .u32 s3), (.int .u8 s4), (.slice s5 sN sC), (.slice s6 sN1 sC1)])) w fun a1 w1 =>
 RD PG (loadVar 70 a1) w1 fun v =>
 ∃ x9 : Int, ∃ x9v1 : Int, ∃ x9v2 : Int, ∃ x9v3 : Int, ∃ x9v4 : Int, ∃ (x9v5 : Option Addr) (x9N x9C : Nat), ∃ (x9v6 : Option Addr) (x9N1 x9C1 : Nat), v = (.agg #[(.int .u16 x9), (.int .u16 x9v1), (.int .u32 x9v2), (.int .u32 x9v3), (.int .u8 x9v4), (.slice x9v5 x9N x9C), (.slice x9v6 x9N1 x9C1)]) ∧
 (CALL PG 172 [(.agg #[(.int .u16 x9), (.int .u16 x9v1), (.int .u32 x9v2), (.int .u32 x9v3), (.int .u8 x9v4), (.slice x9v5 x9N x9C), (.slice x9v6 x9N1 x9C1)])] w1 fun v1 w2 =>
 ∃ x10 : Int, v1 = (.int .i64 x10) ∧
 (LETI x10 fun e =>
 IFB (e != (0 : Int))
 (LETI e fun x3 =>
 Q (.tuple #[(.slice none 0 0), (.int .i64 x3)]) w2)
 (RDL PG (loadVar 68 (Addr.add a1 5)) w2 fun x15 x15N x15C =>
 ∃ I : Nat → Option Addr → Nat → Nat → Int → World → Prop,
 (∃ m, I m none 0 0 (0 : Int) w2) ∧
 (∀ m1 (opts : Option Addr) (optsN optsC : Nat) (x17 : Int) (w3 : World), I m1 opts optsN optsC x17 w3 → (IFB (decide (x17 < (x15N : Int)))
 (IDX x15 x15N x17 fun a19 =>
 RD PG (loadVar 67 (Addr.add a19 (Int.toNat x17 * 2))) w3 fun v2 =>
 ∃ x20 : Int, ∃ (x20v1 : Option Addr) (x20N x20C : Nat), v2 = (.agg #[(.int .u8 x20), (.slice x20v1 x20N x20C)]) ∧
 (RUNA PG (Instr.alloc 67 true (.tuple #[])) w3 fun a7 w4 =>
 RUNU PG (storeVar 67 a7 (.agg #[(.int .u8 x20), (.slice x20v1 x20N x20C)])) w4 fun w5 =>
 RDI PG (loadVar 5 (Addr.add a7 0)) .u8 w5 fun x23 =>
 RDL PG (loadVar 64 (Addr.add a7 1)) w5 fun x25 x25N x25C =>
 RUNL PG (Instr.buildSlice 64 2 #[(0, (.int .u8 x23)), (1, (.int .u8 (IntKind.u8.wrap (x25N : Int))))]) w5 fun x28 x28N x28C w6 =>
 RUNL PG (Builtin.append_ #[64, 64] 64 #[(.slice opts optsN optsC), (.slice x28 x28N x28C)]) w6 fun x29 x29N x29C w7 =>
 RDL PG (loadVar 64 (Addr.add a7 1)) w7 fun x32 x32N x32C =>
 RUNL PG (Builtin.append_ #[64, 64] 64 #[(.slice x29 x29N x29C), (.slice x32 x32N x32C)]) w7 fun x33 x33N x33C w8 =>
 ∃ m2, m2 < m1 ∧ I m2 x33 x33N x33C (IntKind.i64.wrap (x17 + (1 : Int))) w8))
 (RD PG (loadVar 70 a1) w3 fun v3 =>
 ∃ x35 : Int, ∃ x35v1 : Int, ∃ x35v2 : Int, ∃ x35v3 : Int, ∃ x35v4 : Int, ∃ (x35v5 : Option Addr) (x35N x35C : Nat), ∃ (x35v6 : Option Addr) (x35N1 x35C1 : Nat), v3 = (.agg #[(.int .u16 x35), (.int .u16 x35v1), (.int .u32 x35v2), (.int .u32 x35v3), (.int .u8 x35v4), (.slice x35v5 x35N x35C), (.slice x35v6 x35N1 x35C1)]) ∧
 (CALL PG 173 [(.agg #[(.int .u16 x35), (.int .u16 x35v1), (.int .u32 x35v2), (.int .u32 x35v3), (.int .u8 x35v4), (.slice x35v5 x35N x35C), (.slice x35v6 x35N1 x35C1)])] w3 fun v4 w9 =>
 ∃ (x36 : Option Addr) (x36N x36C : Nat), v4 = (.slice x36 x36N x36C) ∧
 (CALL PG 157 [(.int .u8 (IntKind.u8.wrap (optsN : Int)))] w9 fun v5 w10 =>
 ∃ x40 : Int, ∃ x40v1 : Int, v5 = (.agg #[(.int .i64 x40), (.int .u64 x40v1)]) ∧
 (RUNL PG (Instr.buildSlice 174 1 #[(0, (.agg #[(.int .i64 x40), (.int .u64 x40v1)]))]) w10 fun x41 x41N x41C w11 =>
 CALL PG 42 [(.slice x36 x36N x36C), (.slice x41 x41N x41C)] w11 fun v6 w12 =>
 ∃ (x42 : Option Addr) (x42N x42C : Nat), v6 = (.slice x42 x42N x42C) ∧
 (∃ S : World → Prop, S (w12.drew) ∧
 (RDSL PG (loadVar 64 (Addr.add a1 6)) S fun x47 x47N x47C =>
 RUNL PG (Builtin.append_ #[64, 64] 64 #[(.slice x42 x42N x42C), (.slice opts optsN optsC)]) (w12.drew) fun x45 x45N x45C w13 =>
 ∃ S1 : World → Prop, (∀ x, S1 x → S x) ∧ S1 w13 ∧
 (RUNL PG (Builtin.append_ #[64, 64] 64 #[(.slice x45 x45N x45C), (.slice x47 x47N x47C)]) w13 fun x48 x48N x48C w14 =>
 Q (.tuple #[(.slice x48 x48N x48C), (.int .i64 (0 : Int))]) w14))))))))))))
theorem eq137 : ∀ (s : Int) (s1 : Int) (s2 : Int) (s3 : Int) (s4 : Int) (s5 : Option Addr) (sN sC : Nat) (s6 : Option Addr) (sN1 sC1 : Nat) (w : World) (Q : Value → World → Prop), vcF PG TB Tryz.f137 (.s .nil (.s .nil (.s .nil (.s (.s .nil (.u (.loop [(5, 64), (17, 3)] .nil))) .nil)))) [(.agg #[(.int .u16 s), (.int .u16 s1), (.int .u32 s2), (.int .u32 s3), (.int .u8 s4), (.slice s5 sN sC), (.slice s6 sN1 sC1)])] w Q = N137 s s1 s2 s3 s4 s5 sN sC s6 sN1 sC1 w Q := by intros; kernel_rfl
theorem call137 {s : Int} {s1 : Int} {s2 : Int} {s3 : Int} {s4 : Int} {s5 : Option Addr} {sN sC : Nat} {s6 : Option Addr} {sN1 sC1 : Nat} {w : World} {Q : Value → World → Prop} (hN : N137 s s1 s2 s3 s4 s5 sN sC s6 sN1 sC1 w Q) : CALL PG 137 [(.agg #[(.int .u16 s), (.int .u16 s1), (.int .u32 s2), (.int .u32 s3), (.int .u8 s4), (.slice s5 sN sC), (.slice s6 sN1 sC1)])] w Q := calls_vc tabOk Tryz.func137 (by rw [eq137]; exact hN)

/-- brougham/seg.Right -/
def N172 (s : Int) (s1 : Int) (s2 : Int) (s3 : Int) (s4 : Int) (s5 : Option Addr) (sN sC : Nat) (s6 : Option Addr) (sN1 sC1 : Nat) (w : World) (Q : Value → World → Prop) : Prop :=
 RUNA PG (Instr.box 70 (.agg #[(.int .u16 s), (.int .u16 s1), (.int .u32 s2), (.int .u32 s3), (.int .u8 s4), (.slice s5 sN sC), (.slice s6 sN1 sC1)])) w fun a1 w1 =>
 RDI PG (loadVar 5 (Addr.add a1 4)) .u8 w1 fun x7 =>
 IFB (decide (x7 > (7 : Int)))
 (Q (.int .i64 (70 : Int)) w1)
 (RDL PG (loadVar 68 (Addr.add a1 5)) w1 fun x10 x10N x10C =>
 ∃ I : Nat → Int → Int → World → Prop,
 (∃ m, I m (0 : Int) (0 : Int) w1) ∧
 (∀ m1 (n : Int) (x12 : Int) (w2 : World), I m1 n x12 w2 → (IFB (decide (x12 < (x10N : Int)))
 (IDX x10 x10N x12 fun a14 =>
 RD PG (loadVar 67 (Addr.add a14 (Int.toNat x12 * 2))) w2 fun v =>
 ∃ x15 : Int, ∃ (x15v1 : Option Addr) (x15N x15C : Nat), v = (.agg #[(.int .u8 x15), (.slice x15v1 x15N x15C)]) ∧
 (RUNA PG (Instr.alloc 67 true (.tuple #[])) w2 fun a5 w3 =>
 RUNU PG (storeVar 67 a5 (.agg #[(.int .u8 x15), (.slice x15v1 x15N x15C)])) w3 fun w4 =>
 RDI PG (loadVar 5 (Addr.add a5 0)) .u8 w4 fun x17 =>
 IFB (x17 == (0 : Int))
 (Q (.int .i64 (71 : Int)) w4)
 (RDL PG (loadVar 64 (Addr.add a5 1)) w4 fun x21 x21N x21C =>
 IFB (decide ((x21N : Int) > (255 : Int)))
 (Q (.int .i64 (71 : Int)) w4)
 (RDL PG (loadVar 64 (Addr.add a5 1)) w4 fun x27 x27N x27C =>
 LETI (IntKind.i64.wrap (n + (IntKind.i64.wrap ((2 : Int) + (x27N : Int))))) fun n1 =>
 IFB (decide (n1 > (200 : Int)))
 (Q (.int .i64 (71 : Int)) w4)
 (∃ m2, m2 < m1 ∧ I m2 n1 (IntKind.i64.wrap (x12 + (1 : Int))) w4)))))
 (RDL PG (loadVar 64 (Addr.add a1 6)) w2 fun x35 x35N x35C =>
 IFB (decide ((x35N : Int) > (1024 : Int)))
 (Q (.int .i64 (72 : Int)) w2)
 (Q (.int .i64 (0 : Int)) w2)))))
theorem eq172 : ∀ (s : Int) (s1 : Int) (s2 : Int) (s3 : Int) (s4 : Int) (s5 : Option Addr) (sN sC : Nat) (s6 : Option Addr) (sN1 sC1 : Nat) (w : World) (Q : Value → World → Prop), vcF PG TB Tryz.f172 (.s .nil (.s .nil (.s .nil (.s (.s .nil (.u (.loop [(3, 3), (12, 3)] .nil))) .nil)))) [(.agg #[(.int .u16 s), (.int .u16 s1), (.int .u32 s2), (.int .u32 s3), (.int .u8 s4), (.slice s5 sN sC), (.slice s6 sN1 sC1)])] w Q = N172 s s1 s2 s3 s4 s5 sN sC s6 sN1 sC1 w Q := by intros; kernel_rfl
theorem call172 {s : Int} {s1 : Int} {s2 : Int} {s3 : Int} {s4 : Int} {s5 : Option Addr} {sN sC : Nat} {s6 : Option Addr} {sN1 sC1 : Nat} {w : World} {Q : Value → World → Prop} (hN : N172 s s1 s2 s3 s4 s5 sN sC s6 sN1 sC1 w Q) : CALL PG 172 [(.agg #[(.int .u16 s), (.int .u16 s1), (.int .u32 s2), (.int .u32 s3), (.int .u8 s4), (.slice s5 sN sC), (.slice s6 sN1 sC1)])] w Q := calls_vc tabOk Tryz.func172 (by rw [eq172]; exact hN)

/-- brougham/seg.Header -/
def N173 (s : Int) (s1 : Int) (s2 : Int) (s3 : Int) (s4 : Int) (s5 : Option Addr) (sN sC : Nat) (s6 : Option Addr) (sN1 sC1 : Nat) (w : World) (Q : Value → World → Prop) : Prop :=
 RUNA PG (Instr.box 70 (.agg #[(.int .u16 s), (.int .u16 s1), (.int .u32 s2), (.int .u32 s3), (.int .u8 s4), (.slice s5 sN sC), (.slice s6 sN1 sC1)])) w fun a1 w1 =>
 ∃ S : World → Prop, S (w1.drew) ∧
 (RDSI PG (loadVar 28 (Addr.add a1 0)) .u16 S fun x4 =>
 RDSI PG (loadVar 28 (Addr.add a1 1)) .u16 S fun x7 =>
 RDSI PG (loadVar 62 (Addr.add a1 2)) .u32 S fun x10 =>
 RDSI PG (loadVar 62 (Addr.add a1 3)) .u32 S fun x13 =>
 RDSI PG (loadVar 5 (Addr.add a1 4)) .u8 S fun x16 =>
 CALL PG 210 [(.int .u16 x4)] (w1.drew) fun v w2 =>
 ∃ x5 : Int, ∃ x5v1 : Int, v = (.agg #[(.int .i64 x5), (.int .u64 x5v1)]) ∧
 (∃ S1 : World → Prop, (∀ x, S1 x → S x) ∧ S1 w2 ∧
 (CALL PG 210 [(.int .u16 x7)] w2 fun v1 w3 =>
 ∃ x8 : Int, ∃ x8v1 : Int, v1 = (.agg #[(.int .i64 x8), (.int .u64 x8v1)]) ∧
 (∃ S2 : World → Prop, (∀ x, S2 x → S1 x) ∧ S2 w3 ∧
 (CALL PG 156 [(.int .u32 x10)] w3 fun v2 w4 =>
 ∃ x11 : Int, ∃ x11v1 : Int, v2 = (.agg #[(.int .i64 x11), (.int .u64 x11v1)]) ∧
 (∃ S3 : World → Prop, (∀ x, S3 x → S2 x) ∧ S3 w4 ∧
 (CALL PG 156 [(.int .u32 x13)] w4 fun v3 w5 =>
 ∃ x14 : Int, ∃ x14v1 : Int, v3 = (.agg #[(.int .i64 x14), (.int .u64 x14v1)]) ∧
 (∃ S4 : World → Prop, (∀ x, S4 x → S3 x) ∧ S4 w5 ∧
 (CALL PG 157 [(.int .u8 x16)] w5 fun v4 w6 =>
 ∃ x17 : Int, ∃ x17v1 : Int, v4 = (.agg #[(.int .i64 x17), (.int .u64 x17v1)]) ∧
 (RUNL PG (Instr.buildSlice 174 5 #[(0, (.agg #[(.int .i64 x5), (.int .u64 x5v1)])), (1, (.agg #[(.int .i64 x8), (.int .u64 x8v1)])), (2, (.agg #[(.int .i64 x11), (.int .u64 x11v1)])), (3, (.agg #[(.int .i64 x14), (.int .u64 x14v1)])), (4, (.agg #[(.int .i64 x17), (.int .u64 x17v1)]))]) w6 fun x18 x18N x18C w7 =>
 CALL PG 42 [(.slice none 0 0), (.slice x18 x18N x18C)] w7 fun v5 w8 =>
 ∃ (x19 : Option Addr) (x19N x19C : Nat), v5 = (.slice x19 x19N x19C) ∧
 (Q (.slice x19 x19N x19C) w8)))))))))))
theorem eq173 : ∀ (s : Int) (s1 : Int) (s2 : Int) (s3 : Int) (s4 : Int) (s5 : Option Addr) (sN sC : Nat) (s6 : Option Addr) (sN1 sC1 : Nat) (w : World) (Q : Value → World → Prop), vcF PG TB Tryz.f173 .nil [(.agg #[(.int .u16 s), (.int .u16 s1), (.int .u32 s2), (.int .u32 s3), (.int .u8 s4), (.slice s5 sN sC), (.slice s6 sN1 sC1)])] w Q = N173 s s1 s2 s3 s4 s5 sN sC s6 sN1 sC1 w Q := by intros; kernel_rfl
theorem call173 {s : Int} {s1 : Int} {s2 : Int} {s3 : Int} {s4 : Int} {s5 : Option Addr} {sN sC : Nat} {s6 : Option Addr} {sN1 sC1 : Nat} {w : World} {Q : Value → World → Prop} (hN : N173 s s1 s2 s3 s4 s5 sN sC s6 sN1 sC1 w Q) : CALL PG 173 [(.agg #[(.int .u16 s), (.int .u16 s1), (.int .u32 s2), (.int .u32 s3), (.int .u8 s4), (.slice s5 sN sC), (.slice s6 sN1 sC1)])] w Q := calls_vc tabOk Tryz.func173 (by rw [eq173]; exact hN)

end Go.Br
