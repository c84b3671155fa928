/- What the code of some functions says, as the core reads it; each reading is checked by the kernel. -/
import Derived.Test.YtggajodoaooafaaBrSeat
set_option linter.unusedVariables false
set_option maxRecDepth 100000
namespace Go.Br
open Go Go.Proofs

/-- brougham/broughamref07.Same -/
def N22 (a : Int) (a1 : Int) (a2 : Int) (a3 : Int) (a4 : Int) (a5 : Option Addr) (aN aC : Nat) (a6 : Option Addr) (aN1 aC1 : Nat) (b : Int) (b1 : Int) (b2 : Int) (b3 : Int) (b4 : Int) (b5 : Option Addr) (bN bC : Nat) (b6 : Option Addr) (bN1 bC1 : Nat) (w : World) (Q : Value → World → Prop) : Prop :=
 RUNA PG (Instr.box 32 (.agg #[(.int .u16 a), (.int .u16 a1), (.int .u32 a2), (.int .u32 a3), (.int .u8 a4), (.slice a5 aN aC), (.slice a6 aN1 aC1)])) w fun a2v1 w1 =>
 RUNA PG (Instr.box 32 (.agg #[(.int .u16 b), (.int .u16 b1), (.int .u32 b2), (.int .u32 b3), (.int .u8 b4), (.slice b5 bN bC), (.slice b6 bN1 bC1)])) w1 fun a3v1 w2 =>
 RDI PG (loadVar 22 (Addr.add a2v1 0)) .u16 w2 fun x7 =>
 RDI PG (loadVar 22 (Addr.add a3v1 0)) .u16 w2 fun x9 =>
 IFB (x7 != x9)
 (Q (.bool false) w2)
 (RDI PG (loadVar 22 (Addr.add a2v1 1)) .u16 w2 fun x13 =>
 RDI PG (loadVar 22 (Addr.add a3v1 1)) .u16 w2 fun x15 =>
 IFB (x13 != x15)
 (Q (.bool false) w2)
 (RDI PG (loadVar 26 (Addr.add a2v1 2)) .u32 w2 fun x20 =>
 RDI PG (loadVar 26 (Addr.add a3v1 2)) .u32 w2 fun x22 =>
 IFB (x20 != x22)
 (Q (.bool false) w2)
 (RDI PG (loadVar 26 (Addr.add a2v1 3)) .u32 w2 fun x27 =>
 RDI PG (loadVar 26 (Addr.add a3v1 3)) .u32 w2 fun x29 =>
 IFB (x27 != x29)
 (Q (.bool false) w2)
 (RDI PG (loadVar 5 (Addr.add a2v1 4)) .u8 w2 fun x34 =>
 RDI PG (loadVar 5 (Addr.add a3v1 4)) .u8 w2 fun x36 =>
 IFB (x34 != x36)
 (Q (.bool false) w2)
 (RDL PG (loadVar 30 (Addr.add a2v1 6)) w2 fun x41 x41N x41C =>
 RDT PG (convert 30 9 (.slice x41 x41N x41C)) w2 fun x42 =>
 RDL PG (loadVar 30 (Addr.add a3v1 6)) w2 fun x44 x44N x44C =>
 RDT PG (convert 30 9 (.slice x44 x44N x44C)) w2 fun x45 =>
 IFB (!(x42.toList == x45.toList))
 (Q (.bool false) w2)
 (RDL PG (loadVar 29 (Addr.add a2v1 5)) w2 fun x50 x50N x50C =>
 RDL PG (loadVar 29 (Addr.add a3v1 5)) w2 fun x53 x53N x53C =>
 IFB ((x50N : Int) != (x53N : Int))
 (Q (.bool false) w2)
 (∃ I : Nat → Int → World → Prop,
 (∃ m, I m (0 : Int) w2) ∧
 (∀ m1 (i : Int) (w3 : World), I m1 i w3 → (RDL PG (loadVar 29 (Addr.add a2v1 5)) w3 fun x59 x59N x59C =>
 IFB (decide (i < (x59N : Int)))
 (RDL PG (loadVar 29 (Addr.add a2v1 5)) (w3.drew) fun x65 x65N x65C =>
 IDX x65 x65N i fun a67 =>
 RD PG (loadVar 138 (Addr.add a67 (Int.toNat i * 2))) (w3.drew) fun v =>
 ∃ x68 : Int, ∃ (x68v1 : Option Addr) (x68N x68C : Nat), v = (.agg #[(.int .u8 x68), (.slice x68v1 x68N x68C)]) ∧
 (RDL PG (loadVar 29 (Addr.add a3v1 5)) (w3.drew) fun x70 x70N x70C =>
 IDX x70 x70N i fun a72 =>
 RD PG (loadVar 138 (Addr.add a72 (Int.toNat i * 2))) (w3.drew) fun v1 =>
 ∃ x73 : Int, ∃ (x73v1 : Option Addr) (x73N x73C : Nat), v1 = (.agg #[(.int .u8 x73), (.slice x73v1 x73N x73C)]) ∧
 (CALL PG 76 [(.agg #[(.int .u8 x68), (.slice x68v1 x68N x68C)]), (.agg #[(.int .u8 x73), (.slice x73v1 x73N x73C)])] (w3.drew) fun v2 w4 =>
 ∃ x74 : Bool, v2 = (.bool x74) ∧
 (IFB (!x74)
 (Q (.bool false) w4)
 (LETI (IntKind.i64.wrap (i + (1 : Int))) fun i1 =>
 ∃ m2, m2 < m1 ∧ I m2 i1 w4)))))
 (Q (.bool true) w3))))))))))
theorem eq22 : ∀ (a : Int) (a1 : Int) (a2 : Int) (a3 : Int) (a4 : Int) (a5 : Option Addr) (aN aC : Nat) (a6 : Option Addr) (aN1 aC1 : Nat) (b : Int) (b1 : Int) (b2 : Int) (b3 : Int) (b4 : Int) (b5 : Option Addr) (bN bC : Nat) (b6 : Option Addr) (bN1 bC1 : Nat) (w : World) (Q : Value → World → Prop), vcF PG TB Try.f22 (.s .nil (.s .nil (.s (.s .nil (.u (.loop [(5, 3)] .nil))) .nil))) [(.agg #[(.int .u16 a), (.int .u16 a1), (.int .u32 a2), (.int .u32 a3), (.int .u8 a4), (.slice a5 aN aC), (.slice a6 aN1 aC1)]), (.agg #[(.int .u16 b), (.int .u16 b1), (.int .u32 b2), (.int .u32 b3), (.int .u8 b4), (.slice b5 bN bC), (.slice b6 bN1 bC1)])] w Q = N22 a a1 a2 a3 a4 a5 aN aC a6 aN1 aC1 b b1 b2 b3 b4 b5 bN bC b6 bN1 bC1 w Q := by intros; kernel_rfl
theorem call22 {a : Int} {a1 : Int} {a2 : Int} {a3 : Int} {a4 : Int} {a5 : Option Addr} {aN aC : Nat} {a6 : Option Addr} {aN1 aC1 : Nat} {b : Int} {b1 : Int} {b2 : Int} {b3 : Int} {b4 : Int} {b5 : Option Addr} {bN bC : Nat} {b6 : Option Addr} {bN1 bC1 : Nat} {w : World} {Q : Value → World → Prop} (hN : N22 a a1 a2 a3 a4 a5 aN aC a6 aN1 aC1 b b1 b2 b3 b4 b5 bN bC b6 bN1 bC1 w Q) : CALL PG 22 [(.agg #[(.int .u16 a), (.int .u16 a1), (.int .u32 a2), (.int .u32 a3), (.int .u8 a4), (.slice a5 aN aC), (.slice a6 aN1 aC1)]), (.agg #[(.int .u16 b), (.int .u16 b1), (.int .u32 b2), (.int .u32 b3), (.int .u8 b4), (.slice b5 bN bC), (.slice b6 bN1 bC1)])] w Q := calls_vc tabOk Try.func22 (by rw [eq22]; exact hN)

/-- brougham/seg.First -/
def N70 (s : Int) (s1 : Int) (s2 : Int) (s3 : Int) (s4 : Int) (s5 : Option Addr) (sN sC : Nat) (s6 : Option Addr) (sN1 sC1 : Nat) (kind : Int) (w : World) (Q : Value → World → Prop) : Prop :=
 RUNA PG (Instr.box 32 (.agg #[(.int .u16 s), (.int .u16 s1), (.int .u32 s2), (.int .u32 s3), (.int .u8 s4), (.slice s5 sN sC), (.slice s6 sN1 sC1)])) w fun a2 w1 =>
 RUNA PG (Instr.alloc 138 true (.tuple #[])) w1 fun a4 w2 =>
 RDL PG (loadVar 29 (Addr.add a2 5)) w2 fun x9 x9N x9C =>
 ∃ I : Nat → Int → World → Prop,
 (∃ m, I m (0 : Int) w2) ∧
 (∀ m1 (x11 : Int) (w3 : World), I m1 x11 w3 → (IFB (decide (x11 < (x9N : Int)))
 (IDX x9 x9N x11 fun a13 =>
 RD PG (loadVar 138 (Addr.add a13 (Int.toNat x11 * 2))) w3 fun v =>
 ∃ x14 : Int, ∃ (x14v1 : Option Addr) (x14N x14C : Nat), v = (.agg #[(.int .u8 x14), (.slice x14v1 x14N x14C)]) ∧
 (RUNA PG (Instr.alloc 138 true (.tuple #[])) w3 fun a7 w4 =>
 RUNU PG (storeVar 138 a7 (.agg #[(.int .u8 x14), (.slice x14v1 x14N x14C)])) w4 fun w5 =>
 RDI PG (loadVar 5 (Addr.add a7 0)) .u8 w5 fun x16 =>
 IFB (x16 == kind)
 (RD PG (loadVar 138 a7) w5 fun v1 =>
 ∃ x19 : Int, ∃ (x19v1 : Option Addr) (x19N x19C : Nat), v1 = (.agg #[(.int .u8 x19), (.slice x19v1 x19N x19C)]) ∧
 (RUNU PG (storeVar 138 a4 (.agg #[(.int .u8 x19), (.slice x19v1 x19N x19C)])) w5 fun w6 =>
 RD PG (loadVar 138 a4) w6 fun v3 =>
 ∃ r : Int, ∃ (r1 : Option Addr) (rN rC : Nat), v3 = (.agg #[(.int .u8 r), (.slice r1 rN rC)]) ∧
 (Q (.tuple #[(.agg #[(.int .u8 r), (.slice r1 rN rC)]), (.bool true)]) w6)))
 (∃ m2, m2 < m1 ∧ I m2 (IntKind.i64.wrap (x11 + (1 : Int))) w5)))
 (RD PG (Instr.build 138 #[]) w3 fun v4 =>
 ∃ x21 : Int, ∃ (x21v1 : Option Addr) (x21N x21C : Nat), v4 = (.agg #[(.int .u8 x21), (.slice x21v1 x21N x21C)]) ∧
 (RUNU PG (storeVar 138 a4 (.agg #[(.int .u8 x21), (.slice x21v1 x21N x21C)])) w3 fun w7 =>
 RD PG (loadVar 138 a4) w7 fun v6 =>
 ∃ r2 : Int, ∃ (r3 : Option Addr) (rN1 rC1 : Nat), v6 = (.agg #[(.int .u8 r2), (.slice r3 rN1 rC1)]) ∧
 (Q (.tuple #[(.agg #[(.int .u8 r2), (.slice r3 rN1 rC1)]), (.bool false)]) w7)))))
theorem eq70 : ∀ (s : Int) (s1 : Int) (s2 : Int) (s3 : Int) (s4 : Int) (s5 : Option Addr) (sN sC : Nat) (s6 : Option Addr) (sN1 sC1 : Nat) (kind : Int) (w : World) (Q : Value → World → Prop), vcF PG TB Try.f70 (.s .nil (.s (.s .nil (.u (.loop [(11, 3)] .nil))) .nil)) [(.agg #[(.int .u16 s), (.int .u16 s1), (.int .u32 s2), (.int .u32 s3), (.int .u8 s4), (.slice s5 sN sC), (.slice s6 sN1 sC1)]), (.int .u8 kind)] w Q = N70 s s1 s2 s3 s4 s5 sN sC s6 sN1 sC1 kind w Q := by intros; kernel_rfl
theorem call70 {s : Int} {s1 : Int} {s2 : Int} {s3 : Int} {s4 : Int} {s5 : Option Addr} {sN sC : Nat} {s6 : Option Addr} {sN1 sC1 : Nat} {kind : Int} {w : World} {Q : Value → World → Prop} (hN : N70 s s1 s2 s3 s4 s5 sN sC s6 sN1 sC1 kind w Q) : CALL PG 70 [(.agg #[(.int .u16 s), (.int .u16 s1), (.int .u32 s2), (.int .u32 s3), (.int .u8 s4), (.slice s5 sN sC), (.slice s6 sN1 sC1)]), (.int .u8 kind)] w Q := calls_vc tabOk Try.func70 (by rw [eq70]; exact hN)

/-- brougham/seg.Of -/
def N72 (s : Int) (s1 : Int) (s2 : Int) (s3 : Int) (s4 : Int) (s5 : Option Addr) (sN sC : Nat) (s6 : Option Addr) (sN1 sC1 : Nat) (l : Option Addr) (lN lC : Nat) (w : World) (Q : Value → World → Prop) : Prop :=
 RUNA PG (Instr.box 32 (.agg #[(.int .u16 s), (.int .u16 s1), (.int .u32 s2), (.int .u32 s3), (.int .u8 s4), (.slice s5 sN sC), (.slice s6 sN1 sC1)])) w fun a2 w1 =>
 RUNA PG (Instr.alloc 32 true (.tuple #[])) w1 fun a4 w2 =>
 RUNL PG (Builtin.append_ #[29, 29] 29 #[(.slice none 0 0), (.slice l lN lC)]) w2 fun x6 x6N x6C w3 =>
 RUNU PG (storeVar 29 (Addr.add a2 5) (.slice x6 x6N x6C)) w3 fun w4 =>
 RD PG (loadVar 32 a2) w4 fun v =>
 ∃ x8 : Int, ∃ x8v1 : Int, ∃ x8v2 : Int, ∃ x8v3 : Int, ∃ x8v4 : Int, ∃ (x8v5 : Option Addr) (x8N x8C : Nat), ∃ (x8v6 : Option Addr) (x8N1 x8C1 : Nat), v = (.agg #[(.int .u16 x8), (.int .u16 x8v1), (.int .u32 x8v2), (.int .u32 x8v3), (.int .u8 x8v4), (.slice x8v5 x8N x8C), (.slice x8v6 x8N1 x8C1)]) ∧
 (RUNU PG (storeVar 32 a4 (.agg #[(.int .u16 x8), (.int .u16 x8v1), (.int .u32 x8v2), (.int .u32 x8v3), (.int .u8 x8v4), (.slice x8v5 x8N x8C), (.slice x8v6 x8N1 x8C1)])) w4 fun w5 =>
 RD PG (loadVar 32 a4) w5 fun v2 =>
 ∃ r : Int, ∃ r1 : Int, ∃ r2 : Int, ∃ r3 : Int, ∃ r4 : Int, ∃ (r5 : Option Addr) (rN rC : Nat), ∃ (r6 : Option Addr) (rN1 rC1 : Nat), v2 = (.agg #[(.int .u16 r), (.int .u16 r1), (.int .u32 r2), (.int .u32 r3), (.int .u8 r4), (.slice r5 rN rC), (.slice r6 rN1 rC1)]) ∧
 (Q (.agg #[(.int .u16 r), (.int .u16 r1), (.int .u32 r2), (.int .u32 r3), (.int .u8 r4), (.slice r5 rN rC), (.slice r6 rN1 rC1)]) w5))
theorem eq72 : ∀ (s : Int) (s1 : Int) (s2 : Int) (s3 : Int) (s4 : Int) (s5 : Option Addr) (sN sC : Nat) (s6 : Option Addr) (sN1 sC1 : Nat) (l : Option Addr) (lN lC : Nat) (w : World) (Q : Value → World → Prop), vcF PG TB Try.f72 .nil [(.agg #[(.int .u16 s), (.int .u16 s1), (.int .u32 s2), (.int .u32 s3), (.int .u8 s4), (.slice s5 sN sC), (.slice s6 sN1 sC1)]), (.slice l lN lC)] w Q = N72 s s1 s2 s3 s4 s5 sN sC s6 sN1 sC1 l lN lC w Q := by intros; kernel_rfl
theorem call72 {s : Int} {s1 : Int} {s2 : Int} {s3 : Int} {s4 : Int} {s5 : Option Addr} {sN sC : Nat} {s6 : Option Addr} {sN1 sC1 : Nat} {l : Option Addr} {lN lC : Nat} {w : World} {Q : Value → World → Prop} (hN : N72 s s1 s2 s3 s4 s5 sN sC s6 sN1 sC1 l lN lC w Q) : CALL PG 72 [(.agg #[(.int .u16 s), (.int .u16 s1), (.int .u32 s2), (.int .u32 s3), (.int .u8 s4), (.slice s5 sN sC), (.slice s6 sN1 sC1)]), (.slice l lN lC)] w Q := calls_vc tabOk Try.func72 (by rw [eq72]; exact hN)

/-- (brougham/opt.Key).Option -/
def N73 (k : Int) (k1 : Bool) (k2 : Int) (w : World) (Q : Value → World → Prop) : Prop :=
 RUNA PG (Instr.box 148 (.agg #[(.int .u64 k), (.bool k1), (.int .u64 k2)])) w fun a1 w1 =>
 RUNA PG (Instr.alloc 138 true (.tuple #[])) w1 fun a2 w2 =>
 RDI PG (loadVar 56 (Addr.add a1 0)) .u64 w2 fun x5 =>
 CALL PG 113 [(.int .u64 x5)] w2 fun v w3 =>
 ∃ x6 : Int, ∃ x6v1 : Int, v = (.agg #[(.int .i64 x6), (.int .u64 x6v1)]) ∧
 (RUNL PG (Instr.buildSlice 225 1 #[(0, (.agg #[(.int .i64 x6), (.int .u64 x6v1)]))]) w3 fun x7 x7N x7C w4 =>
 CALL PG 112 [(.slice none 0 0), (.slice x7 x7N x7C)] w4 fun v1 w5 =>
 ∃ (x8 : Option Addr) (x8N x8C : Nat), v1 = (.slice x8 x8N x8C) ∧
 (RDB PG (loadVar 4 (Addr.add a1 1)) w5 fun x10 =>
 IFB x10
 (RDI PG (loadVar 56 (Addr.add (Addr.add a1 2) 0)) .u64 w5 fun x14 =>
 CALL PG 113 [(.int .u64 x14)] w5 fun v2 w6 =>
 ∃ x15 : Int, ∃ x15v1 : Int, v2 = (.agg #[(.int .i64 x15), (.int .u64 x15v1)]) ∧
 (RUNL PG (Instr.buildSlice 225 1 #[(0, (.agg #[(.int .i64 x15), (.int .u64 x15v1)]))]) w6 fun x16 x16N x16C w7 =>
 CALL PG 112 [(.slice x8 x8N x8C), (.slice x16 x16N x16C)] w7 fun v3 w8 =>
 ∃ (x17 : Option Addr) (x17N x17C : Nat), v3 = (.slice x17 x17N x17C) ∧
 (RD PG (Instr.build 138 #[(0, (.int .u8 (1 : Int))), (1, (.slice x17 x17N x17C))]) w8 fun v4 =>
 ∃ x19 : Int, ∃ (x19v1 : Option Addr) (x19N x19C : Nat), v4 = (.agg #[(.int .u8 x19), (.slice x19v1 x19N x19C)]) ∧
 (RUNU PG (storeVar 138 a2 (.agg #[(.int .u8 x19), (.slice x19v1 x19N x19C)])) w8 fun w9 =>
 RD PG (loadVar 138 a2) w9 fun v6 =>
 ∃ r : Int, ∃ (r1 : Option Addr) (rN rC : Nat), v6 = (.agg #[(.int .u8 r), (.slice r1 rN rC)]) ∧
 (Q (.agg #[(.int .u8 r), (.slice r1 rN rC)]) w9)))))
 (RD PG (Instr.build 138 #[(0, (.int .u8 (1 : Int))), (1, (.slice x8 x8N x8C))]) w5 fun v7 =>
 ∃ x19v2 : Int, ∃ (x19v3 : Option Addr) (x19N1 x19C1 : Nat), v7 = (.agg #[(.int .u8 x19v2), (.slice x19v3 x19N1 x19C1)]) ∧
 (RUNU PG (storeVar 138 a2 (.agg #[(.int .u8 x19v2), (.slice x19v3 x19N1 x19C1)])) w5 fun w10 =>
 RD PG (loadVar 138 a2) w10 fun v9 =>
 ∃ r2 : Int, ∃ (r3 : Option Addr) (rN1 rC1 : Nat), v9 = (.agg #[(.int .u8 r2), (.slice r3 rN1 rC1)]) ∧
 (Q (.agg #[(.int .u8 r2), (.slice r3 rN1 rC1)]) w10)))))
theorem eq73 : ∀ (k : Int) (k1 : Bool) (k2 : Int) (w : World) (Q : Value → World → Prop), vcF PG TB Try.f73 .nil [(.agg #[(.int .u64 k), (.bool k1), (.int .u64 k2)])] w Q = N73 k k1 k2 w Q := by intros; kernel_rfl
theorem call73 {k : Int} {k1 : Bool} {k2 : Int} {w : World} {Q : Value → World → Prop} (hN : N73 k k1 k2 w Q) : CALL PG 73 [(.agg #[(.int .u64 k), (.bool k1), (.int .u64 k2)])] w Q := calls_vc tabOk Try.func73 (by rw [eq73]; exact hN)

/-- (brougham/opt.Data).Option -/
def N74 (d : Bool) (d1 : Bool) (d2 : Int) (d3 : Int) (d4 : Int) (d5 : Int) (w : World) (Q : Value → World → Prop) : Prop :=
 RUNA PG (Instr.box 151 (.agg #[(.bool d), (.bool d1), (.int .u64 d2), (.int .u64 d3), (.int .u32 d4), (.int .u64 d5)])) w fun a1 w1 =>
 RUNA PG (Instr.alloc 138 true (.tuple #[])) w1 fun a2 w2 =>
 ∃ S : World → Prop, S (w2.drew) ∧
 (RDSB PG (loadVar 4 (Addr.add a1 0)) S fun x4 =>
 RDSB PG (loadVar 4 (Addr.add a1 1)) S fun x6 =>
 RDSI PG (loadVar 56 (Addr.add a1 2)) .u64 S fun x10 =>
 RDSI PG (loadVar 56 (Addr.add a1 3)) .u64 S fun x13 =>
 RDSI PG (loadVar 26 (Addr.add a1 4)) .u32 S fun x16 =>
 RDSI PG (loadVar 56 (Addr.add (Addr.add a1 5) 0)) .u64 S fun x20 =>
 CALL PG 115 [(.bool x4), (.bool x6)] (w2.drew) fun v w3 =>
 ∃ x7 : Int, v = (.int .u8 x7) ∧
 (∃ S1 : World → Prop, (∀ x, S1 x → S x) ∧ S1 w3 ∧
 (CALL PG 114 [(.int .u8 x7)] w3 fun v1 w4 =>
 ∃ x8 : Int, ∃ x8v1 : Int, v1 = (.agg #[(.int .i64 x8), (.int .u64 x8v1)]) ∧
 (∃ S2 : World → Prop, (∀ x, S2 x → S1 x) ∧ S2 w4 ∧
 (CALL PG 113 [(.int .u64 x10)] w4 fun v2 w5 =>
 ∃ x11 : Int, ∃ x11v1 : Int, v2 = (.agg #[(.int .i64 x11), (.int .u64 x11v1)]) ∧
 (∃ S3 : World → Prop, (∀ x, S3 x → S2 x) ∧ S3 w5 ∧
 (CALL PG 113 [(.int .u64 x13)] w5 fun v3 w6 =>
 ∃ x14 : Int, ∃ x14v1 : Int, v3 = (.agg #[(.int .i64 x14), (.int .u64 x14v1)]) ∧
 (∃ S4 : World → Prop, (∀ x, S4 x → S3 x) ∧ S4 w6 ∧
 (CALL PG 116 [(.int .u32 x16)] w6 fun v4 w7 =>
 ∃ x17 : Int, ∃ x17v1 : Int, v4 = (.agg #[(.int .i64 x17), (.int .u64 x17v1)]) ∧
 (∃ S5 : World → Prop, (∀ x, S5 x → S4 x) ∧ S5 w7 ∧
 (CALL PG 113 [(.int .u64 x20)] w7 fun v5 w8 =>
 ∃ x21 : Int, ∃ x21v1 : Int, v5 = (.agg #[(.int .i64 x21), (.int .u64 x21v1)]) ∧
 (RUNL PG (Instr.buildSlice 225 5 #[(0, (.agg #[(.int .i64 x8), (.int .u64 x8v1)])), (1, (.agg #[(.int .i64 x11), (.int .u64 x11v1)])), (2, (.agg #[(.int .i64 x14), (.int .u64 x14v1)])), (3, (.agg #[(.int .i64 x17), (.int .u64 x17v1)])), (4, (.agg #[(.int .i64 x21), (.int .u64 x21v1)]))]) w8 fun x22 x22N x22C w9 =>
 CALL PG 112 [(.slice none 0 0), (.slice x22 x22N x22C)] w9 fun v6 w10 =>
 ∃ (x23 : Option Addr) (x23N x23C : Nat), v6 = (.slice x23 x23N x23C) ∧
 (RD PG (Instr.build 138 #[(0, (.int .u8 (3 : Int))), (1, (.slice x23 x23N x23C))]) w10 fun v7 =>
 ∃ x24 : Int, ∃ (x24v1 : Option Addr) (x24N x24C : Nat), v7 = (.agg #[(.int .u8 x24), (.slice x24v1 x24N x24C)]) ∧
 (RUNU PG (storeVar 138 a2 (.agg #[(.int .u8 x24), (.slice x24v1 x24N x24C)])) w10 fun w11 =>
 RD PG (loadVar 138 a2) w11 fun v9 =>
 ∃ r : Int, ∃ (r1 : Option Addr) (rN rC : Nat), v9 = (.agg #[(.int .u8 r), (.slice r1 rN rC)]) ∧
 (Q (.agg #[(.int .u8 r), (.slice r1 rN rC)]) w11)))))))))))))))
theorem eq74 : ∀ (d : Bool) (d1 : Bool) (d2 : Int) (d3 : Int) (d4 : Int) (d5 : Int) (w : World) (Q : Value → World → Prop), vcF PG TB Try.f74 .nil [(.agg #[(.bool d), (.bool d1), (.int .u64 d2), (.int .u64 d3), (.int .u32 d4), (.int .u64 d5)])] w Q = N74 d d1 d2 d3 d4 d5 w Q := by intros; kernel_rfl
theorem call74 {d : Bool} {d1 : Bool} {d2 : Int} {d3 : Int} {d4 : Int} {d5 : Int} {w : World} {Q : Value → World → Prop} (hN : N74 d d1 d2 d3 d4 d5 w Q) : CALL PG 74 [(.agg #[(.bool d), (.bool d1), (.int .u64 d2), (.int .u64 d3), (.int .u32 d4), (.int .u64 d5)])] w Q := calls_vc tabOk Try.func74 (by rw [eq74]; exact hN)

/-- (brougham/opt.Word).Option -/
def N75 (wv : Int) (wv1 : Int) (wv2 : Int) (wv3 : Int) (wv4 : Bool) (wv5 : Int) (w : World) (Q : Value → World → Prop) : Prop :=
 RUNA PG (Instr.box 153 (.agg #[(.int .u8 wv), (.int .u32 wv1), (.int .u8 wv2), (.int .u8 wv3), (.bool wv4), (.int .u64 wv5)])) w fun a1 w1 =>
 RUNA PG (Instr.alloc 138 true (.tuple #[])) w1 fun a2 w2 =>
 ∃ S : World → Prop, S (w2.drew) ∧
 (RDSI PG (loadVar 5 (Addr.add a1 0)) .u8 S fun x4 =>
 RDSI PG (loadVar 26 (Addr.add a1 1)) .u32 S fun x6 =>
 RDSI PG (loadVar 5 (Addr.add a1 2)) .u8 S fun x9 =>
 RDSI PG (loadVar 5 (Addr.add a1 3)) .u8 S fun x12 =>
 RDSB PG (loadVar 4 (Addr.add a1 4)) S fun x15 =>
 RDSI PG (loadVar 56 (Addr.add (Addr.add a1 5) 0)) .u64 S fun x19 =>
 CALL PG 116 [(.int .u32 x6)] (w2.drew) fun v w3 =>
 ∃ x7 : Int, ∃ x7v1 : Int, v = (.agg #[(.int .i64 x7), (.int .u64 x7v1)]) ∧
 (∃ S1 : World → Prop, (∀ x, S1 x → S x) ∧ S1 w3 ∧
 (CALL PG 114 [(.int .u8 x9)] w3 fun v1 w4 =>
 ∃ x10 : Int, ∃ x10v1 : Int, v1 = (.agg #[(.int .i64 x10), (.int .u64 x10v1)]) ∧
 (∃ S2 : World → Prop, (∀ x, S2 x → S1 x) ∧ S2 w4 ∧
 (CALL PG 114 [(.int .u8 x12)] w4 fun v2 w5 =>
 ∃ x13 : Int, ∃ x13v1 : Int, v2 = (.agg #[(.int .i64 x13), (.int .u64 x13v1)]) ∧
 (∃ S3 : World → Prop, (∀ x, S3 x → S2 x) ∧ S3 w5 ∧
 (CALL PG 117 [(.bool x15)] w5 fun v3 w6 =>
 ∃ x16 : Int, ∃ x16v1 : Int, v3 = (.agg #[(.int .i64 x16), (.int .u64 x16v1)]) ∧
 (∃ S4 : World → Prop, (∀ x, S4 x → S3 x) ∧ S4 w6 ∧
 (CALL PG 113 [(.int .u64 x19)] w6 fun v4 w7 =>
 ∃ x20 : Int, ∃ x20v1 : Int, v4 = (.agg #[(.int .i64 x20), (.int .u64 x20v1)]) ∧
 (∃ S5 : World → Prop, (∀ x, S5 x → S4 x) ∧ S5 w7 ∧
 (RUNL PG (Instr.buildSlice 225 5 #[(0, (.agg #[(.int .i64 x7), (.int .u64 x7v1)])), (1, (.agg #[(.int .i64 x10), (.int .u64 x10v1)])), (2, (.agg #[(.int .i64 x13), (.int .u64 x13v1)])), (3, (.agg #[(.int .i64 x16), (.int .u64 x16v1)])), (4, (.agg #[(.int .i64 x20), (.int .u64 x20v1)]))]) w7 fun x21 x21N x21C w8 =>
 ∃ S6 : World → Prop, (∀ x, S6 x → S5 x) ∧ S6 w8 ∧
 (CALL PG 112 [(.slice none 0 0), (.slice x21 x21N x21C)] w8 fun v5 w9 =>
 ∃ (x22 : Option Addr) (x22N x22C : Nat), v5 = (.slice x22 x22N x22C) ∧
 (∃ S7 : World → Prop, (∀ x, S7 x → S6 x) ∧ S7 w9 ∧
 (RDS PG (Instr.build 138 #[(0, (.int .u8 x4)), (1, (.slice x22 x22N x22C))]) S7 fun v6 =>
 ∃ x23 : Int, ∃ (x23v1 : Option Addr) (x23N x23C : Nat), v6 = (.agg #[(.int .u8 x23), (.slice x23v1 x23N x23C)]) ∧
 (RUNU PG (storeVar 138 a2 (.agg #[(.int .u8 x23), (.slice x23v1 x23N x23C)])) w9 fun w10 =>
 RD PG (loadVar 138 a2) w10 fun v8 =>
 ∃ r : Int, ∃ (r1 : Option Addr) (rN rC : Nat), v8 = (.agg #[(.int .u8 r), (.slice r1 rN rC)]) ∧
 (Q (.agg #[(.int .u8 r), (.slice r1 rN rC)]) w10))))))))))))))))
theorem eq75 : ∀ (wv : Int) (wv1 : Int) (wv2 : Int) (wv3 : Int) (wv4 : Bool) (wv5 : Int) (w : World) (Q : Value → World → Prop), vcF PG TB Try.f75 .nil [(.agg #[(.int .u8 wv), (.int .u32 wv1), (.int .u8 wv2), (.int .u8 wv3), (.bool wv4), (.int .u64 wv5)])] w Q = N75 wv wv1 wv2 wv3 wv4 wv5 w Q := by intros; kernel_rfl
theorem call75 {wv : Int} {wv1 : Int} {wv2 : Int} {wv3 : Int} {wv4 : Bool} {wv5 : Int} {w : World} {Q : Value → World → Prop} (hN : N75 wv wv1 wv2 wv3 wv4 wv5 w Q) : CALL PG 75 [(.agg #[(.int .u8 wv), (.int .u32 wv1), (.int .u8 wv2), (.int .u8 wv3), (.bool wv4), (.int .u64 wv5)])] w Q := calls_vc tabOk Try.func75 (by rw [eq75]; exact hN)

/-- brougham/broughamref07.SameOption -/
def N76 (a : Int) (a1 : Option Addr) (aN aC : Nat) (b : Int) (b1 : Option Addr) (bN bC : Nat) (w : World) (Q : Value → World → Prop) : Prop :=
 RUNA PG (Instr.box 138 (.agg #[(.int .u8 a), (.slice a1 aN aC)])) w fun a2 w1 =>
 RUNA PG (Instr.box 138 (.agg #[(.int .u8 b), (.slice b1 bN bC)])) w1 fun a3 w2 =>
 RDI PG (loadVar 5 (Addr.add a2 0)) .u8 w2 fun x6 =>
 RDI PG (loadVar 5 (Addr.add a3 0)) .u8 w2 fun x8 =>
 IFB (x6 == x8)
 (RDL PG (loadVar 30 (Addr.add a2 1)) w2 fun x12 x12N x12C =>
 RDT PG (convert 30 9 (.slice x12 x12N x12C)) w2 fun x13 =>
 RDL PG (loadVar 30 (Addr.add a3 1)) w2 fun x15 x15N x15C =>
 RDT PG (convert 30 9 (.slice x15 x15N x15C)) w2 fun x16 =>
 LETB (x13.toList == x16.toList) fun x4 =>
 Q (.bool x4) w2)
 (LETB false fun x4v1 =>
 Q (.bool x4v1) w2)
theorem eq76 : ∀ (a : Int) (a1 : Option Addr) (aN aC : Nat) (b : Int) (b1 : Option Addr) (bN bC : Nat) (w : World) (Q : Value → World → Prop), vcF PG TB Try.f76 .nil [(.agg #[(.int .u8 a), (.slice a1 aN aC)]), (.agg #[(.int .u8 b), (.slice b1 bN bC)])] w Q = N76 a a1 aN aC b b1 bN bC w Q := by intros; kernel_rfl
theorem call76 {a : Int} {a1 : Option Addr} {aN aC : Nat} {b : Int} {b1 : Option Addr} {bN bC : Nat} {w : World} {Q : Value → World → Prop} (hN : N76 a a1 aN aC b b1 bN bC w Q) : CALL PG 76 [(.agg #[(.int .u8 a), (.slice a1 aN aC)]), (.agg #[(.int .u8 b), (.slice b1 bN bC)])] w Q := calls_vc tabOk Try.func76 (by rw [eq76]; exact hN)

/-- brougham/broughamref08.Key -/
def N77 (key : Int) (tag : Int) (answer : Bool) (w : World) (Q : Value → World → Prop) : Prop :=
 CALL PG 118 [(.slice none 0 0), (.int .u64 key), (.int .i64 (8 : Int))] w fun v w1 =>
 ∃ (x9 : Option Addr) (x9N x9C : Nat), v = (.slice x9 x9N x9C) ∧
 (IFB answer
 (CALL PG 118 [(.slice x9 x9N x9C), (.int .u64 tag), (.int .i64 (8 : Int))] w1 fun v1 w2 =>
 ∃ (x13 : Option Addr) (x13N x13C : Nat), v1 = (.slice x13 x13N x13C) ∧
 (Q (.slice x13 x13N x13C) w2))
 (Q (.slice x9 x9N x9C) w1))
theorem eq77 : ∀ (key : Int) (tag : Int) (answer : Bool) (w : World) (Q : Value → World → Prop), vcF PG TB Try.f77 .nil [(.int .u64 key), (.int .u64 tag), (.bool answer)] w Q = N77 key tag answer w Q := by intros; kernel_rfl
theorem call77 {key : Int} {tag : Int} {answer : Bool} {w : World} {Q : Value → World → Prop} (hN : N77 key tag answer w Q) : CALL PG 77 [(.int .u64 key), (.int .u64 tag), (.bool answer)] w Q := calls_vc tabOk Try.func77 (by rw [eq77]; exact hN)

/-- brougham/broughamref08.Data -/
def N78 (d : Bool) (d1 : Bool) (d2 : Int) (d3 : Int) (d4 : Int) (d5 : Int) (w : World) (Q : Value → World → Prop) : Prop :=
 RUNA PG (Instr.box 158 (.agg #[(.bool d), (.bool d1), (.int .u64 d2), (.int .u64 d3), (.int .u32 d4), (.int .u64 d5)])) w fun a1 w1 =>
 ∃ S : World → Prop, S (w1.drew) ∧
 (RDSB PG (loadVar 4 (Addr.add a1 0)) S fun x5 =>
 RDSB PG (loadVar 4 (Addr.add a1 1)) S fun x8 =>
 CALL PG 119 [(.bool x5)] (w1.drew) fun v w2 =>
 ∃ x6 : Int, v = (.int .u64 x6) ∧
 (∃ S1 : World → Prop, (∀ x, S1 x → S x) ∧ S1 w2 ∧
 (CALL PG 119 [(.bool x8)] w2 fun v1 w3 =>
 ∃ x9 : Int, v1 = (.int .u64 x9) ∧
 (CALL PG 118 [(.slice none 0 0), (.int .u64 (IntKind.u64.wrap (x6 + (IntKind.u64.wrap ((2 : Int) * x9))))), (.int .i64 (1 : Int))] w3 fun v2 w4 =>
 ∃ (x12 : Option Addr) (x12N x12C : Nat), v2 = (.slice x12 x12N x12C) ∧
 (∃ S2 : World → Prop, S2 (w4.drew) ∧
 (RDSI PG (loadVar 56 (Addr.add a1 2)) .u64 S2 fun x15 =>
 RDSI PG (loadVar 56 (Addr.add a1 3)) .u64 S2 fun x18 =>
 CALL PG 118 [(.slice x12 x12N x12C), (.int .u64 x15), (.int .i64 (8 : Int))] (w4.drew) fun v3 w5 =>
 ∃ (x16 : Option Addr) (x16N x16C : Nat), v3 = (.slice x16 x16N x16C) ∧
 (∃ S3 : World → Prop, (∀ x, S3 x → S2 x) ∧ S3 w5 ∧
 (CALL PG 118 [(.slice x16 x16N x16C), (.int .u64 x18), (.int .i64 (8 : Int))] w5 fun v4 w6 =>
 ∃ (x19 : Option Addr) (x19N x19C : Nat), v4 = (.slice x19 x19N x19C) ∧
 (∃ S4 : World → Prop, S4 (w6.drew) ∧
 (RDSI PG (loadVar 26 (Addr.add a1 4)) .u32 S4 fun x22 =>
 RDSI PG (loadVar 56 (Addr.add a1 5)) .u64 S4 fun x26 =>
 CALL PG 118 [(.slice x19 x19N x19C), (.int .u64 (IntKind.u64.wrap x22)), (.int .i64 (4 : Int))] (w6.drew) fun v5 w7 =>
 ∃ (x24 : Option Addr) (x24N x24C : Nat), v5 = (.slice x24 x24N x24C) ∧
 (∃ S5 : World → Prop, (∀ x, S5 x → S4 x) ∧ S5 w7 ∧
 (CALL PG 118 [(.slice x24 x24N x24C), (.int .u64 x26), (.int .i64 (8 : Int))] w7 fun v6 w8 =>
 ∃ (x27 : Option Addr) (x27N x27C : Nat), v6 = (.slice x27 x27N x27C) ∧
 (Q (.slice x27 x27N x27C) w8)))))))))))))
theorem eq78 : ∀ (d : Bool) (d1 : Bool) (d2 : Int) (d3 : Int) (d4 : Int) (d5 : Int) (w : World) (Q : Value → World → Prop), vcF PG TB Try.f78 .nil [(.agg #[(.bool d), (.bool d1), (.int .u64 d2), (.int .u64 d3), (.int .u32 d4), (.int .u64 d5)])] w Q = N78 d d1 d2 d3 d4 d5 w Q := by intros; kernel_rfl
theorem call78 {d : Bool} {d1 : Bool} {d2 : Int} {d3 : Int} {d4 : Int} {d5 : Int} {w : World} {Q : Value → World → Prop} (hN : N78 d d1 d2 d3 d4 d5 w Q) : CALL PG 78 [(.agg #[(.bool d), (.bool d1), (.int .u64 d2), (.int .u64 d3), (.int .u32 d4), (.int .u64 d5)])] w Q := calls_vc tabOk Try.func78 (by rw [eq78]; exact hN)

/-- brougham/broughamref08.Word -/
def N79 (wv : Int) (wv1 : Int) (wv2 : Int) (wv3 : Bool) (wv4 : Int) (w : World) (Q : Value → World → Prop) : Prop :=
 RUNA PG (Instr.box 161 (.agg #[(.int .u32 wv), (.int .u8 wv1), (.int .u8 wv2), (.bool wv3), (.int .u64 wv4)])) w fun a1 w1 =>
 ∃ S : World → Prop, S (w1.drew) ∧
 (RDSI PG (loadVar 26 (Addr.add a1 0)) .u32 S fun x5 =>
 RDSI PG (loadVar 5 (Addr.add a1 1)) .u8 S fun x9 =>
 RDSI PG (loadVar 5 (Addr.add a1 2)) .u8 S fun x11 =>
 (CALL PG 118 [(.slice none 0 0), (.int .u64 (IntKind.u64.wrap x5)), (.int .i64 (4 : Int))] (w1.drew) fun v w2 =>
 ∃ (x7 : Option Addr) (x7N x7C : Nat), v = (.slice x7 x7N x7C) ∧
 (∃ S1 : World → Prop, (∀ x, S1 x → S x) ∧ S1 w2 ∧
 (RUNL PG (Instr.buildSlice 30 2 #[(0, (.int .u8 x9)), (1, (.int .u8 x11))]) w2 fun x12 x12N x12C w3 =>
 ∃ S2 : World → Prop, (∀ x, S2 x → S1 x) ∧ S2 w3 ∧
 (RUNL PG (Builtin.append_ #[30, 30] 30 #[(.slice x7 x7N x7C), (.slice x12 x12N x12C)]) w3 fun x13 x13N x13C w4 =>
 ∃ S3 : World → Prop, S3 (w4.drew) ∧
 (RDSB PG (loadVar 4 (Addr.add a1 3)) S3 fun x16 =>
 RDSI PG (loadVar 56 (Addr.add a1 4)) .u64 S3 fun x20 =>
 CALL PG 119 [(.bool x16)] (w4.drew) fun v1 w5 =>
 ∃ x17 : Int, v1 = (.int .u64 x17) ∧
 (∃ S4 : World → Prop, (∀ x, S4 x → S3 x) ∧ S4 w5 ∧
 (CALL PG 118 [(.slice x13 x13N x13C), (.int .u64 x17), (.int .i64 (1 : Int))] w5 fun v2 w6 =>
 ∃ (x18 : Option Addr) (x18N x18C : Nat), v2 = (.slice x18 x18N x18C) ∧
 (∃ S5 : World → Prop, (∀ x, S5 x → S4 x) ∧ S5 w6 ∧
 (CALL PG 118 [(.slice x18 x18N x18C), (.int .u64 x20), (.int .i64 (8 : Int))] w6 fun v3 w7 =>
 ∃ (x21 : Option Addr) (x21N x21C : Nat), v3 = (.slice x21 x21N x21C) ∧
 (Q (.slice x21 x21N x21C) w7)))))))))) ∧
 (RUNL PG (Instr.buildSlice 30 2 #[(0, (.int .u8 x9)), (1, (.int .u8 x11))]) (w1.drew) fun x12v1 x12N1 x12C1 w8 =>
 ∃ S6 : World → Prop, (∀ x, S6 x → S x) ∧ S6 w8 ∧
 (CALL PG 118 [(.slice none 0 0), (.int .u64 (IntKind.u64.wrap x5)), (.int .i64 (4 : Int))] w8 fun v4 w9 =>
 ∃ (x7v1 : Option Addr) (x7N1 x7C1 : Nat), v4 = (.slice x7v1 x7N1 x7C1) ∧
 (∃ S7 : World → Prop, (∀ x, S7 x → S6 x) ∧ S7 w9 ∧
 (RUNL PG (Builtin.append_ #[30, 30] 30 #[(.slice x7v1 x7N1 x7C1), (.slice x12v1 x12N1 x12C1)]) w9 fun x13v1 x13N1 x13C1 w10 =>
 ∃ S8 : World → Prop, S8 (w10.drew) ∧
 (RDSB PG (loadVar 4 (Addr.add a1 3)) S8 fun x16v1 =>
 RDSI PG (loadVar 56 (Addr.add a1 4)) .u64 S8 fun x20v1 =>
 CALL PG 119 [(.bool x16v1)] (w10.drew) fun v5 w11 =>
 ∃ x17v1 : Int, v5 = (.int .u64 x17v1) ∧
 (∃ S9 : World → Prop, (∀ x, S9 x → S8 x) ∧ S9 w11 ∧
 (CALL PG 118 [(.slice x13v1 x13N1 x13C1), (.int .u64 x17v1), (.int .i64 (1 : Int))] w11 fun v6 w12 =>
 ∃ (x18v1 : Option Addr) (x18N1 x18C1 : Nat), v6 = (.slice x18v1 x18N1 x18C1) ∧
 (∃ S10 : World → Prop, (∀ x, S10 x → S9 x) ∧ S10 w12 ∧
 (CALL PG 118 [(.slice x18v1 x18N1 x18C1), (.int .u64 x20v1), (.int .i64 (8 : Int))] w12 fun v7 w13 =>
 ∃ (x21v1 : Option Addr) (x21N1 x21C1 : Nat), v7 = (.slice x21v1 x21N1 x21C1) ∧
 (Q (.slice x21v1 x21N1 x21C1) w13)))))))))))
theorem eq79 : ∀ (wv : Int) (wv1 : Int) (wv2 : Int) (wv3 : Bool) (wv4 : Int) (w : World) (Q : Value → World → Prop), vcF PG TB Try.f79 .nil [(.agg #[(.int .u32 wv), (.int .u8 wv1), (.int .u8 wv2), (.bool wv3), (.int .u64 wv4)])] w Q = N79 wv wv1 wv2 wv3 wv4 w Q := by intros; kernel_rfl
theorem call79 {wv : Int} {wv1 : Int} {wv2 : Int} {wv3 : Bool} {wv4 : Int} {w : World} {Q : Value → World → Prop} (hN : N79 wv wv1 wv2 wv3 wv4 w Q) : CALL PG 79 [(.agg #[(.int .u32 wv), (.int .u8 wv1), (.int .u8 wv2), (.bool wv3), (.int .u64 wv4)])] w Q := calls_vc tabOk Try.func79 (by rw [eq79]; exact hN)

end Go.Br
