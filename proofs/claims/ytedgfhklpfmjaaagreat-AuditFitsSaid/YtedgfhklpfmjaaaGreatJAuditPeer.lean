/- AuditFit, AuditPeer -/
import Derived.Test.YtedgfhklpfmjaaaGreatBrSeat
import Derived.Test.YtedgfhklpfmjaaaGreatBrOwn
/- What the code of some functions says, as the core reads it; each reading is checked by the kernel. -/
set_option linter.unusedVariables false
set_option maxRecDepth 100000
namespace Go.Br
open Go Go.Proofs

/-- brougham/broughamlaw27.plain -/
def N4 (e : Int) (e1 : Int) (e2 : Int) (e3 : Int) (e4 : Int) (e5 : Int) (e6 : Int) (e7 : Int) (e8 : Int) (e9 : Int) (e10 : Int) (e11 : Int) (e12 : Int) (e13 : Int) (e14 : Bool) (e15 : Bool) (e16 : Int) (e17 : Int) (e18 : Int) (e19 : Int) (w : World) (Q : Value → World → Prop) : Prop :=
 RUNA PG (Instr.box 34 (.agg #[(.int .i64 e), (.int .i64 e1), (.int .i64 e2), (.int .i64 e3), (.int .i64 e4), (.int .u64 e5), (.int .u64 e6), (.int .i64 e7), (.int .u16 e8), (.int .u16 e9), (.int .u64 e10), (.int .u64 e11), (.int .u64 e12), (.int .u64 e13), (.bool e14), (.bool e15), (.int .i64 e16), (.int .i64 e17), (.int .i64 e18), (.int .i64 e19)])) w fun a1 w1 =>
 RUNA PG (Instr.alloc 38 true (.tuple #[])) w1 fun a2 w2 =>
 RDI PG (loadVar 3 (Addr.add a1 0)) .i64 w2 fun x4 =>
 RDI PG (loadVar 3 (Addr.add a1 1)) .i64 w2 fun x6 =>
 RDI PG (loadVar 22 (Addr.add (Addr.add a1 2) 0)) .i64 w2 fun x9 =>
 RDI PG (loadVar 24 (Addr.add (Addr.add a1 2) 2)) .i64 w2 fun x12 =>
 RD PG (loadVar 27 (Addr.add (Addr.add a1 2) 3)) w2 fun v =>
 ∃ x15 : Int, ∃ x15v1 : Int, v = (.agg #[(.int .u64 x15), (.int .u64 x15v1)]) ∧
 (RDI PG (loadVar 28 (Addr.add (Addr.add (Addr.add a1 2) 5) 1)) .u16 w2 fun x19 =>
 RDI PG (loadVar 28 (Addr.add (Addr.add (Addr.add a1 2) 5) 2)) .u16 w2 fun x24 =>
 RDI PG (loadVar 3 (Addr.add (Addr.add (Addr.add a1 2) 5) 0)) .i64 w2 fun x29 =>
 RDI PG (loadVar 25 (Addr.add (Addr.add a1 2) 8)) .u64 w2 fun x32 =>
 RDI PG (loadVar 25 (Addr.add (Addr.add a1 2) 9)) .u64 w2 fun x35 =>
 RDI PG (loadVar 25 (Addr.add (Addr.add a1 2) 10)) .u64 w2 fun x38 =>
 RDI PG (loadVar 25 (Addr.add (Addr.add a1 2) 11)) .u64 w2 fun x41 =>
 RDB PG (loadVar 4 (Addr.add (Addr.add a1 2) 12)) w2 fun x44 =>
 RDB PG (loadVar 4 (Addr.add (Addr.add a1 2) 13)) w2 fun x47 =>
 RD PG (Instr.build 38 #[(0, (.int .i64 x4)), (1, (.int .i64 x6)), (2, (.int .i64 x9)), (3, (.int .i64 x12)), (4, (.agg #[(.int .u64 x15), (.int .u64 x15v1)])), (5, (.int .i64 (IntKind.i64.wrap x19))), (6, (.int .i64 (IntKind.i64.wrap x24))), (7, (.int .i64 x29)), (8, (.int .u64 x32)), (9, (.int .u64 x35)), (10, (.int .u64 x38)), (11, (.int .u64 x41)), (12, (.bool x44)), (13, (.bool x47))]) w2 fun v1 =>
 ∃ x48 : Int, ∃ x48v1 : Int, ∃ x48v2 : Int, ∃ x48v3 : Int, ∃ x48v4 : Int, ∃ x48v5 : Int, ∃ x48v6 : Int, ∃ x48v7 : Int, ∃ x48v8 : Int, ∃ x48v9 : Int, ∃ x48v10 : Int, ∃ x48v11 : Int, ∃ x48v12 : Int, ∃ x48v13 : Bool, ∃ x48v14 : Bool, v1 = (.agg #[(.int .i64 x48), (.int .i64 x48v1), (.int .i64 x48v2), (.int .i64 x48v3), (.int .u64 x48v4), (.int .u64 x48v5), (.int .i64 x48v6), (.int .i64 x48v7), (.int .i64 x48v8), (.int .u64 x48v9), (.int .u64 x48v10), (.int .u64 x48v11), (.int .u64 x48v12), (.bool x48v13), (.bool x48v14)]) ∧
 (RUNU PG (storeVar 38 a2 (.agg #[(.int .i64 x48), (.int .i64 x48v1), (.int .i64 x48v2), (.int .i64 x48v3), (.int .u64 x48v4), (.int .u64 x48v5), (.int .i64 x48v6), (.int .i64 x48v7), (.int .i64 x48v8), (.int .u64 x48v9), (.int .u64 x48v10), (.int .u64 x48v11), (.int .u64 x48v12), (.bool x48v13), (.bool x48v14)])) w2 fun w3 =>
 RD PG (loadVar 38 a2) w3 fun v3 =>
 ∃ r : Int, ∃ r1 : Int, ∃ r2 : Int, ∃ r3 : Int, ∃ r4 : Int, ∃ r5 : Int, ∃ r6 : Int, ∃ r7 : Int, ∃ r8 : Int, ∃ r9 : Int, ∃ r10 : Int, ∃ r11 : Int, ∃ r12 : Int, ∃ r13 : Bool, ∃ r14 : Bool, v3 = (.agg #[(.int .i64 r), (.int .i64 r1), (.int .i64 r2), (.int .i64 r3), (.int .u64 r4), (.int .u64 r5), (.int .i64 r6), (.int .i64 r7), (.int .i64 r8), (.int .u64 r9), (.int .u64 r10), (.int .u64 r11), (.int .u64 r12), (.bool r13), (.bool r14)]) ∧
 (Q (.agg #[(.int .i64 r), (.int .i64 r1), (.int .i64 r2), (.int .i64 r3), (.int .u64 r4), (.int .u64 r5), (.int .i64 r6), (.int .i64 r7), (.int .i64 r8), (.int .u64 r9), (.int .u64 r10), (.int .u64 r11), (.int .u64 r12), (.bool r13), (.bool r14)]) w3)))
theorem eq4 : ∀ (e : Int) (e1 : Int) (e2 : Int) (e3 : Int) (e4 : Int) (e5 : Int) (e6 : Int) (e7 : Int) (e8 : Int) (e9 : Int) (e10 : Int) (e11 : Int) (e12 : Int) (e13 : Int) (e14 : Bool) (e15 : Bool) (e16 : Int) (e17 : Int) (e18 : Int) (e19 : Int) (w : World) (Q : Value → World → Prop), vcF PG TB Tryz.f4 .nil [(.agg #[(.int .i64 e), (.int .i64 e1), (.int .i64 e2), (.int .i64 e3), (.int .i64 e4), (.int .u64 e5), (.int .u64 e6), (.int .i64 e7), (.int .u16 e8), (.int .u16 e9), (.int .u64 e10), (.int .u64 e11), (.int .u64 e12), (.int .u64 e13), (.bool e14), (.bool e15), (.int .i64 e16), (.int .i64 e17), (.int .i64 e18), (.int .i64 e19)])] w Q = N4 e e1 e2 e3 e4 e5 e6 e7 e8 e9 e10 e11 e12 e13 e14 e15 e16 e17 e18 e19 w Q := by intros; kernel_rfl
theorem call4 {e : Int} {e1 : Int} {e2 : Int} {e3 : Int} {e4 : Int} {e5 : Int} {e6 : Int} {e7 : Int} {e8 : Int} {e9 : Int} {e10 : Int} {e11 : Int} {e12 : Int} {e13 : Int} {e14 : Bool} {e15 : Bool} {e16 : Int} {e17 : Int} {e18 : Int} {e19 : Int} {w : World} {Q : Value → World → Prop} (hN : N4 e e1 e2 e3 e4 e5 e6 e7 e8 e9 e10 e11 e12 e13 e14 e15 e16 e17 e18 e19 w Q) : CALL PG 4 [(.agg #[(.int .i64 e), (.int .i64 e1), (.int .i64 e2), (.int .i64 e3), (.int .i64 e4), (.int .u64 e5), (.int .u64 e6), (.int .i64 e7), (.int .u16 e8), (.int .u16 e9), (.int .u64 e10), (.int .u64 e11), (.int .u64 e12), (.int .u64 e13), (.bool e14), (.bool e15), (.int .i64 e16), (.int .i64 e17), (.int .i64 e18), (.int .i64 e19)])] w Q := calls_vc tabOk Tryz.func4 (by rw [eq4]; exact hN)

/-- brougham/audit.Fit -/
def N7 (a : Int) (a1 : Int) (a2 : Int) (a3 : Int) (a4 : Int) (a5 : Int) (a6 : Int) (a7 : Int) (a8 : Int) (a9 : Int) (a10 : Int) (a11 : Int) (a12 : Int) (a13 : Int) (a14 : Bool) (a15 : Bool) (a16 : Int) (a17 : Int) (a18 : Int) (a19 : Int) (b : Int) (b1 : Int) (b2 : Int) (b3 : Int) (b4 : Int) (b5 : Int) (b6 : Int) (b7 : Int) (b8 : Int) (b9 : Int) (b10 : Int) (b11 : Int) (b12 : Int) (b13 : Int) (b14 : Bool) (b15 : Bool) (b16 : Int) (b17 : Int) (b18 : Int) (b19 : Int) (w : World) (Q : Value → World → Prop) : Prop :=
 RUNA PG (Instr.box 34 (.agg #[(.int .i64 a), (.int .i64 a1), (.int .i64 a2), (.int .i64 a3), (.int .i64 a4), (.int .u64 a5), (.int .u64 a6), (.int .i64 a7), (.int .u16 a8), (.int .u16 a9), (.int .u64 a10), (.int .u64 a11), (.int .u64 a12), (.int .u64 a13), (.bool a14), (.bool a15), (.int .i64 a16), (.int .i64 a17), (.int .i64 a18), (.int .i64 a19)])) w fun a2v1 w1 =>
 RUNA PG (Instr.box 34 (.agg #[(.int .i64 b), (.int .i64 b1), (.int .i64 b2), (.int .i64 b3), (.int .i64 b4), (.int .u64 b5), (.int .u64 b6), (.int .i64 b7), (.int .u16 b8), (.int .u16 b9), (.int .u64 b10), (.int .u64 b11), (.int .u64 b12), (.int .u64 b13), (.bool b14), (.bool b15), (.int .i64 b16), (.int .i64 b17), (.int .i64 b18), (.int .i64 b19)])) w1 fun a3v1 w2 =>
 ∃ R : Bool → World → Prop,
 (RDI PG (loadVar 28 (Addr.add (Addr.add (Addr.add a2v1 2) 5) 1)) .u16 w2 fun x9 =>
 RDI PG (loadVar 28 (Addr.add (Addr.add (Addr.add a3v1 2) 5) 2)) .u16 w2 fun x13 =>
 IFB (x9 == x13)
 (RDI PG (loadVar 28 (Addr.add (Addr.add (Addr.add a2v1 2) 5) 2)) .u16 w2 fun x19 =>
 RDI PG (loadVar 28 (Addr.add (Addr.add (Addr.add a3v1 2) 5) 1)) .u16 w2 fun x23 =>
 IFB (x19 == x23)
 (RDI PG (loadVar 3 (Addr.add (Addr.add (Addr.add a2v1 2) 5) 0)) .i64 w2 fun x30 =>
 RDI PG (loadVar 3 (Addr.add (Addr.add (Addr.add a3v1 2) 5) 0)) .i64 w2 fun x34 =>
 LETB (x30 == x34) fun ports =>
 R ports w2)
 (LETB false fun ports1 =>
 R ports1 w2))
 (LETB false fun ports2 =>
 R ports2 w2)) ∧
 (∀ (ports3 : Bool) (w3 : World), R ports3 w3 → (RDI PG (loadVar 3 (Addr.add a2v1 0)) .i64 w3 fun x38 =>
 RDI PG (loadVar 3 (Addr.add a3v1 0)) .i64 w3 fun x40 =>
 IFB (x38 != x40)
 (RDI PG (loadVar 24 (Addr.add (Addr.add a2v1 2) 2)) .i64 w3 fun x45 =>
 RDI PG (loadVar 24 (Addr.add (Addr.add a3v1 2) 2)) .i64 w3 fun x48 =>
 IFB (x45 != x48)
 (IFB ports3
 (RDI PG (loadVar 25 (Addr.add (Addr.add a2v1 2) 10)) .u64 w3 fun x57 =>
 RDI PG (loadVar 25 (Addr.add (Addr.add a3v1 2) 8)) .u64 w3 fun x60 =>
 IFB (decide (x57 ≤ x60))
 (RDI PG (loadVar 25 (Addr.add (Addr.add a3v1 2) 10)) .u64 w3 fun x66 =>
 RDI PG (loadVar 25 (Addr.add (Addr.add a2v1 2) 8)) .u64 w3 fun x69 =>
 IFB (decide (x66 ≤ x69))
 (RDI PG (loadVar 25 (Addr.add (Addr.add a2v1 2) 11)) .u64 w3 fun x75 =>
 RDI PG (loadVar 25 (Addr.add (Addr.add a2v1 2) 10)) .u64 w3 fun x78 =>
 IFB (decide (x75 ≤ x78))
 (RDI PG (loadVar 25 (Addr.add (Addr.add a3v1 2) 11)) .u64 w3 fun x84 =>
 RDI PG (loadVar 25 (Addr.add (Addr.add a3v1 2) 10)) .u64 w3 fun x87 =>
 IFB (decide (x84 ≤ x87))
 (RDI PG (loadVar 25 (Addr.add (Addr.add a2v1 2) 9)) .u64 w3 fun x93 =>
 RDI PG (loadVar 25 (Addr.add (Addr.add a2v1 2) 8)) .u64 w3 fun x96 =>
 IFB (decide (x93 ≤ x96))
 (RDI PG (loadVar 25 (Addr.add (Addr.add a3v1 2) 9)) .u64 w3 fun x102 =>
 RDI PG (loadVar 25 (Addr.add (Addr.add a3v1 2) 8)) .u64 w3 fun x105 =>
 IFB (decide (x102 ≤ x105))
 (RDI PG (loadVar 25 (Addr.add (Addr.add a2v1 2) 9)) .u64 w3 fun x111 =>
 RDI PG (loadVar 25 (Addr.add (Addr.add a3v1 2) 10)) .u64 w3 fun x114 =>
 IFB (decide (x111 ≤ x114))
 (RDI PG (loadVar 25 (Addr.add (Addr.add a3v1 2) 9)) .u64 w3 fun x120 =>
 RDI PG (loadVar 25 (Addr.add (Addr.add a2v1 2) 10)) .u64 w3 fun x123 =>
 IFB (decide (x120 ≤ x123))
 (RDB PG (loadVar 4 (Addr.add (Addr.add a2v1 2) 13)) w3 fun x129 =>
 IFB (!x129)
 (RDB PG (loadVar 4 (Addr.add (Addr.add a3v1 2) 13)) w3 fun x149 =>
 IFB (!x149)
 (LETB true fun x4 =>
 Q (.bool x4) w3)
 (RDB PG (loadVar 4 (Addr.add (Addr.add a2v1 2) 12)) w3 fun x154 =>
 IFB x154
 (RDI PG (loadVar 25 (Addr.add (Addr.add a3v1 2) 10)) .u64 w3 fun x158 =>
 RDI PG (loadVar 25 (Addr.add (Addr.add a2v1 2) 8)) .u64 w3 fun x161 =>
 LETB (x158 == x161) fun x4v1 =>
 Q (.bool x4v1) w3)
 (LETB false fun x4v2 =>
 Q (.bool x4v2) w3)))
 (RDB PG (loadVar 4 (Addr.add (Addr.add a3v1 2) 12)) w3 fun x134 =>
 IFB x134
 (RDI PG (loadVar 25 (Addr.add (Addr.add a2v1 2) 10)) .u64 w3 fun x138 =>
 RDI PG (loadVar 25 (Addr.add (Addr.add a3v1 2) 8)) .u64 w3 fun x141 =>
 IFB (x138 == x141)
 (RDB PG (loadVar 4 (Addr.add (Addr.add a3v1 2) 13)) w3 fun x149v1 =>
 IFB (!x149v1)
 (LETB true fun x4v3 =>
 Q (.bool x4v3) w3)
 (RDB PG (loadVar 4 (Addr.add (Addr.add a2v1 2) 12)) w3 fun x154v1 =>
 IFB x154v1
 (RDI PG (loadVar 25 (Addr.add (Addr.add a3v1 2) 10)) .u64 w3 fun x158v1 =>
 RDI PG (loadVar 25 (Addr.add (Addr.add a2v1 2) 8)) .u64 w3 fun x161v1 =>
 LETB (x158v1 == x161v1) fun x4v4 =>
 Q (.bool x4v4) w3)
 (LETB false fun x4v5 =>
 Q (.bool x4v5) w3)))
 (LETB false fun x4v6 =>
 Q (.bool x4v6) w3))
 (LETB false fun x4v7 =>
 Q (.bool x4v7) w3)))
 (LETB false fun x4v8 =>
 Q (.bool x4v8) w3))
 (LETB false fun x4v9 =>
 Q (.bool x4v9) w3))
 (LETB false fun x4v10 =>
 Q (.bool x4v10) w3))
 (LETB false fun x4v11 =>
 Q (.bool x4v11) w3))
 (LETB false fun x4v12 =>
 Q (.bool x4v12) w3))
 (LETB false fun x4v13 =>
 Q (.bool x4v13) w3))
 (LETB false fun x4v14 =>
 Q (.bool x4v14) w3))
 (LETB false fun x4v15 =>
 Q (.bool x4v15) w3))
 (LETB false fun x4v16 =>
 Q (.bool x4v16) w3))
 (LETB false fun x4v17 =>
 Q (.bool x4v17) w3))
 (LETB false fun x4v18 =>
 Q (.bool x4v18) w3)))
theorem eq7 : ∀ (a : Int) (a1 : Int) (a2 : Int) (a3 : Int) (a4 : Int) (a5 : Int) (a6 : Int) (a7 : Int) (a8 : Int) (a9 : Int) (a10 : Int) (a11 : Int) (a12 : Int) (a13 : Int) (a14 : Bool) (a15 : Bool) (a16 : Int) (a17 : Int) (a18 : Int) (a19 : Int) (b : Int) (b1 : Int) (b2 : Int) (b3 : Int) (b4 : Int) (b5 : Int) (b6 : Int) (b7 : Int) (b8 : Int) (b9 : Int) (b10 : Int) (b11 : Int) (b12 : Int) (b13 : Int) (b14 : Bool) (b15 : Bool) (b16 : Int) (b17 : Int) (b18 : Int) (b19 : Int) (w : World) (Q : Value → World → Prop), vcF PG TB Tryz.f7 (.s .nil (.cut [(5, 4)] .nil .nil)) [(.agg #[(.int .i64 a), (.int .i64 a1), (.int .i64 a2), (.int .i64 a3), (.int .i64 a4), (.int .u64 a5), (.int .u64 a6), (.int .i64 a7), (.int .u16 a8), (.int .u16 a9), (.int .u64 a10), (.int .u64 a11), (.int .u64 a12), (.int .u64 a13), (.bool a14), (.bool a15), (.int .i64 a16), (.int .i64 a17), (.int .i64 a18), (.int .i64 a19)]), (.agg #[(.int .i64 b), (.int .i64 b1), (.int .i64 b2), (.int .i64 b3), (.int .i64 b4), (.int .u64 b5), (.int .u64 b6), (.int .i64 b7), (.int .u16 b8), (.int .u16 b9), (.int .u64 b10), (.int .u64 b11), (.int .u64 b12), (.int .u64 b13), (.bool b14), (.bool b15), (.int .i64 b16), (.int .i64 b17), (.int .i64 b18), (.int .i64 b19)])] w Q = N7 a a1 a2 a3 a4 a5 a6 a7 a8 a9 a10 a11 a12 a13 a14 a15 a16 a17 a18 a19 b b1 b2 b3 b4 b5 b6 b7 b8 b9 b10 b11 b12 b13 b14 b15 b16 b17 b18 b19 w Q := by intros; kernel_rfl
theorem call7 {a : Int} {a1 : Int} {a2 : Int} {a3 : Int} {a4 : Int} {a5 : Int} {a6 : Int} {a7 : Int} {a8 : Int} {a9 : Int} {a10 : Int} {a11 : Int} {a12 : Int} {a13 : Int} {a14 : Bool} {a15 : Bool} {a16 : Int} {a17 : Int} {a18 : Int} {a19 : Int} {b : Int} {b1 : Int} {b2 : Int} {b3 : Int} {b4 : Int} {b5 : Int} {b6 : Int} {b7 : Int} {b8 : Int} {b9 : Int} {b10 : Int} {b11 : Int} {b12 : Int} {b13 : Int} {b14 : Bool} {b15 : Bool} {b16 : Int} {b17 : Int} {b18 : Int} {b19 : Int} {w : World} {Q : Value → World → Prop} (hN : N7 a a1 a2 a3 a4 a5 a6 a7 a8 a9 a10 a11 a12 a13 a14 a15 a16 a17 a18 a19 b b1 b2 b3 b4 b5 b6 b7 b8 b9 b10 b11 b12 b13 b14 b15 b16 b17 b18 b19 w Q) : CALL PG 7 [(.agg #[(.int .i64 a), (.int .i64 a1), (.int .i64 a2), (.int .i64 a3), (.int .i64 a4), (.int .u64 a5), (.int .u64 a6), (.int .i64 a7), (.int .u16 a8), (.int .u16 a9), (.int .u64 a10), (.int .u64 a11), (.int .u64 a12), (.int .u64 a13), (.bool a14), (.bool a15), (.int .i64 a16), (.int .i64 a17), (.int .i64 a18), (.int .i64 a19)]), (.agg #[(.int .i64 b), (.int .i64 b1), (.int .i64 b2), (.int .i64 b3), (.int .i64 b4), (.int .u64 b5), (.int .u64 b6), (.int .i64 b7), (.int .u16 b8), (.int .u16 b9), (.int .u64 b10), (.int .u64 b11), (.int .u64 b12), (.int .u64 b13), (.bool b14), (.bool b15), (.int .i64 b16), (.int .i64 b17), (.int .i64 b18), (.int .i64 b19)])] w Q := calls_vc tabOk Tryz.func7 (by rw [eq7]; exact hN)

/-- brougham/broughamref27.Fit -/
def N8 (a : Int) (a1 : Int) (a2 : Int) (a3 : Int) (a4 : Int) (a5 : Int) (a6 : Int) (a7 : Int) (a8 : Int) (a9 : Int) (a10 : Int) (a11 : Int) (a12 : Int) (a13 : Bool) (a14 : Bool) (b : Int) (b1 : Int) (b2 : Int) (b3 : Int) (b4 : Int) (b5 : Int) (b6 : Int) (b7 : Int) (b8 : Int) (b9 : Int) (b10 : Int) (b11 : Int) (b12 : Int) (b13 : Bool) (b14 : Bool) (w : World) (Q : Value → World → Prop) : Prop :=
 RUNA PG (Instr.box 38 (.agg #[(.int .i64 a), (.int .i64 a1), (.int .i64 a2), (.int .i64 a3), (.int .u64 a4), (.int .u64 a5), (.int .i64 a6), (.int .i64 a7), (.int .i64 a8), (.int .u64 a9), (.int .u64 a10), (.int .u64 a11), (.int .u64 a12), (.bool a13), (.bool a14)])) w fun a2v1 w1 =>
 RUNA PG (Instr.box 38 (.agg #[(.int .i64 b), (.int .i64 b1), (.int .i64 b2), (.int .i64 b3), (.int .u64 b4), (.int .u64 b5), (.int .i64 b6), (.int .i64 b7), (.int .i64 b8), (.int .u64 b9), (.int .u64 b10), (.int .u64 b11), (.int .u64 b12), (.bool b13), (.bool b14)])) w1 fun a3v1 w2 =>
 RDI PG (loadVar 3 (Addr.add a2v1 0)) .i64 w2 fun x6 =>
 RDI PG (loadVar 3 (Addr.add a3v1 0)) .i64 w2 fun x8 =>
 IFB (x6 == x8)
 (Q (.bool false) w2)
 (RDI PG (loadVar 3 (Addr.add a2v1 3)) .i64 w2 fun x12 =>
 RDI PG (loadVar 3 (Addr.add a3v1 3)) .i64 w2 fun x14 =>
 IFB (x12 == x14)
 (Q (.bool false) w2)
 (RDI PG (loadVar 3 (Addr.add a2v1 6)) .i64 w2 fun x19 =>
 RDI PG (loadVar 3 (Addr.add a3v1 7)) .i64 w2 fun x21 =>
 IFB (x19 != x21)
 (Q (.bool false) w2)
 (RDI PG (loadVar 3 (Addr.add a2v1 7)) .i64 w2 fun x26 =>
 RDI PG (loadVar 3 (Addr.add a3v1 6)) .i64 w2 fun x28 =>
 IFB (x26 != x28)
 (Q (.bool false) w2)
 (RDI PG (loadVar 3 (Addr.add a2v1 8)) .i64 w2 fun x33 =>
 RDI PG (loadVar 3 (Addr.add a3v1 8)) .i64 w2 fun x35 =>
 IFB (x33 != x35)
 (Q (.bool false) w2)
 (RD PG (loadVar 38 a2v1) w2 fun v =>
 ∃ x38 : Int, ∃ x38v1 : Int, ∃ x38v2 : Int, ∃ x38v3 : Int, ∃ x38v4 : Int, ∃ x38v5 : Int, ∃ x38v6 : Int, ∃ x38v7 : Int, ∃ x38v8 : Int, ∃ x38v9 : Int, ∃ x38v10 : Int, ∃ x38v11 : Int, ∃ x38v12 : Int, ∃ x38v13 : Bool, ∃ x38v14 : Bool, v = (.agg #[(.int .i64 x38), (.int .i64 x38v1), (.int .i64 x38v2), (.int .i64 x38v3), (.int .u64 x38v4), (.int .u64 x38v5), (.int .i64 x38v6), (.int .i64 x38v7), (.int .i64 x38v8), (.int .u64 x38v9), (.int .u64 x38v10), (.int .u64 x38v11), (.int .u64 x38v12), (.bool x38v13), (.bool x38v14)]) ∧
 (RD PG (loadVar 38 a3v1) w2 fun v1 =>
 ∃ x39 : Int, ∃ x39v1 : Int, ∃ x39v2 : Int, ∃ x39v3 : Int, ∃ x39v4 : Int, ∃ x39v5 : Int, ∃ x39v6 : Int, ∃ x39v7 : Int, ∃ x39v8 : Int, ∃ x39v9 : Int, ∃ x39v10 : Int, ∃ x39v11 : Int, ∃ x39v12 : Int, ∃ x39v13 : Bool, ∃ x39v14 : Bool, v1 = (.agg #[(.int .i64 x39), (.int .i64 x39v1), (.int .i64 x39v2), (.int .i64 x39v3), (.int .u64 x39v4), (.int .u64 x39v5), (.int .i64 x39v6), (.int .i64 x39v7), (.int .i64 x39v8), (.int .u64 x39v9), (.int .u64 x39v10), (.int .u64 x39v11), (.int .u64 x39v12), (.bool x39v13), (.bool x39v14)]) ∧
 (CALL PG 10 [(.agg #[(.int .i64 x38), (.int .i64 x38v1), (.int .i64 x38v2), (.int .i64 x38v3), (.int .u64 x38v4), (.int .u64 x38v5), (.int .i64 x38v6), (.int .i64 x38v7), (.int .i64 x38v8), (.int .u64 x38v9), (.int .u64 x38v10), (.int .u64 x38v11), (.int .u64 x38v12), (.bool x38v13), (.bool x38v14)]), (.agg #[(.int .i64 x39), (.int .i64 x39v1), (.int .i64 x39v2), (.int .i64 x39v3), (.int .u64 x39v4), (.int .u64 x39v5), (.int .i64 x39v6), (.int .i64 x39v7), (.int .i64 x39v8), (.int .u64 x39v9), (.int .u64 x39v10), (.int .u64 x39v11), (.int .u64 x39v12), (.bool x39v13), (.bool x39v14)])] w2 fun v2 w3 =>
 ∃ x40 : Bool, v2 = (.bool x40) ∧
 (IFB x40
 (RD PG (loadVar 38 a3v1) w3 fun v3 =>
 ∃ x42 : Int, ∃ x42v1 : Int, ∃ x42v2 : Int, ∃ x42v3 : Int, ∃ x42v4 : Int, ∃ x42v5 : Int, ∃ x42v6 : Int, ∃ x42v7 : Int, ∃ x42v8 : Int, ∃ x42v9 : Int, ∃ x42v10 : Int, ∃ x42v11 : Int, ∃ x42v12 : Int, ∃ x42v13 : Bool, ∃ x42v14 : Bool, v3 = (.agg #[(.int .i64 x42), (.int .i64 x42v1), (.int .i64 x42v2), (.int .i64 x42v3), (.int .u64 x42v4), (.int .u64 x42v5), (.int .i64 x42v6), (.int .i64 x42v7), (.int .i64 x42v8), (.int .u64 x42v9), (.int .u64 x42v10), (.int .u64 x42v11), (.int .u64 x42v12), (.bool x42v13), (.bool x42v14)]) ∧
 (RD PG (loadVar 38 a2v1) w3 fun v4 =>
 ∃ x43 : Int, ∃ x43v1 : Int, ∃ x43v2 : Int, ∃ x43v3 : Int, ∃ x43v4 : Int, ∃ x43v5 : Int, ∃ x43v6 : Int, ∃ x43v7 : Int, ∃ x43v8 : Int, ∃ x43v9 : Int, ∃ x43v10 : Int, ∃ x43v11 : Int, ∃ x43v12 : Int, ∃ x43v13 : Bool, ∃ x43v14 : Bool, v4 = (.agg #[(.int .i64 x43), (.int .i64 x43v1), (.int .i64 x43v2), (.int .i64 x43v3), (.int .u64 x43v4), (.int .u64 x43v5), (.int .i64 x43v6), (.int .i64 x43v7), (.int .i64 x43v8), (.int .u64 x43v9), (.int .u64 x43v10), (.int .u64 x43v11), (.int .u64 x43v12), (.bool x43v13), (.bool x43v14)]) ∧
 (CALL PG 10 [(.agg #[(.int .i64 x42), (.int .i64 x42v1), (.int .i64 x42v2), (.int .i64 x42v3), (.int .u64 x42v4), (.int .u64 x42v5), (.int .i64 x42v6), (.int .i64 x42v7), (.int .i64 x42v8), (.int .u64 x42v9), (.int .u64 x42v10), (.int .u64 x42v11), (.int .u64 x42v12), (.bool x42v13), (.bool x42v14)]), (.agg #[(.int .i64 x43), (.int .i64 x43v1), (.int .i64 x43v2), (.int .i64 x43v3), (.int .u64 x43v4), (.int .u64 x43v5), (.int .i64 x43v6), (.int .i64 x43v7), (.int .i64 x43v8), (.int .u64 x43v9), (.int .u64 x43v10), (.int .u64 x43v11), (.int .u64 x43v12), (.bool x43v13), (.bool x43v14)])] w3 fun v5 w4 =>
 ∃ x44 : Bool, v5 = (.bool x44) ∧
 (LETB x44 fun x4 =>
 Q (.bool x4) w4))))
 (LETB false fun x4v1 =>
 Q (.bool x4v1) w3)))))))))
theorem eq8 : ∀ (a : Int) (a1 : Int) (a2 : Int) (a3 : Int) (a4 : Int) (a5 : Int) (a6 : Int) (a7 : Int) (a8 : Int) (a9 : Int) (a10 : Int) (a11 : Int) (a12 : Int) (a13 : Bool) (a14 : Bool) (b : Int) (b1 : Int) (b2 : Int) (b3 : Int) (b4 : Int) (b5 : Int) (b6 : Int) (b7 : Int) (b8 : Int) (b9 : Int) (b10 : Int) (b11 : Int) (b12 : Int) (b13 : Bool) (b14 : Bool) (w : World) (Q : Value → World → Prop), vcF PG TB Tryz.f8 .nil [(.agg #[(.int .i64 a), (.int .i64 a1), (.int .i64 a2), (.int .i64 a3), (.int .u64 a4), (.int .u64 a5), (.int .i64 a6), (.int .i64 a7), (.int .i64 a8), (.int .u64 a9), (.int .u64 a10), (.int .u64 a11), (.int .u64 a12), (.bool a13), (.bool a14)]), (.agg #[(.int .i64 b), (.int .i64 b1), (.int .i64 b2), (.int .i64 b3), (.int .u64 b4), (.int .u64 b5), (.int .i64 b6), (.int .i64 b7), (.int .i64 b8), (.int .u64 b9), (.int .u64 b10), (.int .u64 b11), (.int .u64 b12), (.bool b13), (.bool b14)])] w Q = N8 a a1 a2 a3 a4 a5 a6 a7 a8 a9 a10 a11 a12 a13 a14 b b1 b2 b3 b4 b5 b6 b7 b8 b9 b10 b11 b12 b13 b14 w Q := by intros; kernel_rfl
theorem call8 {a : Int} {a1 : Int} {a2 : Int} {a3 : Int} {a4 : Int} {a5 : Int} {a6 : Int} {a7 : Int} {a8 : Int} {a9 : Int} {a10 : Int} {a11 : Int} {a12 : Int} {a13 : Bool} {a14 : Bool} {b : Int} {b1 : Int} {b2 : Int} {b3 : Int} {b4 : Int} {b5 : Int} {b6 : Int} {b7 : Int} {b8 : Int} {b9 : Int} {b10 : Int} {b11 : Int} {b12 : Int} {b13 : Bool} {b14 : Bool} {w : World} {Q : Value → World → Prop} (hN : N8 a a1 a2 a3 a4 a5 a6 a7 a8 a9 a10 a11 a12 a13 a14 b b1 b2 b3 b4 b5 b6 b7 b8 b9 b10 b11 b12 b13 b14 w Q) : CALL PG 8 [(.agg #[(.int .i64 a), (.int .i64 a1), (.int .i64 a2), (.int .i64 a3), (.int .u64 a4), (.int .u64 a5), (.int .i64 a6), (.int .i64 a7), (.int .i64 a8), (.int .u64 a9), (.int .u64 a10), (.int .u64 a11), (.int .u64 a12), (.bool a13), (.bool a14)]), (.agg #[(.int .i64 b), (.int .i64 b1), (.int .i64 b2), (.int .i64 b3), (.int .u64 b4), (.int .u64 b5), (.int .i64 b6), (.int .i64 b7), (.int .i64 b8), (.int .u64 b9), (.int .u64 b10), (.int .u64 b11), (.int .u64 b12), (.bool b13), (.bool b14)])] w Q := calls_vc tabOk Tryz.func8 (by rw [eq8]; exact hN)

/-- brougham/broughamref27.half -/
def N10 (a : Int) (a1 : Int) (a2 : Int) (a3 : Int) (a4 : Int) (a5 : Int) (a6 : Int) (a7 : Int) (a8 : Int) (a9 : Int) (a10 : Int) (a11 : Int) (a12 : Int) (a13 : Bool) (a14 : Bool) (b : Int) (b1 : Int) (b2 : Int) (b3 : Int) (b4 : Int) (b5 : Int) (b6 : Int) (b7 : Int) (b8 : Int) (b9 : Int) (b10 : Int) (b11 : Int) (b12 : Int) (b13 : Bool) (b14 : Bool) (w : World) (Q : Value → World → Prop) : Prop :=
 RUNA PG (Instr.box 38 (.agg #[(.int .i64 a), (.int .i64 a1), (.int .i64 a2), (.int .i64 a3), (.int .u64 a4), (.int .u64 a5), (.int .i64 a6), (.int .i64 a7), (.int .i64 a8), (.int .u64 a9), (.int .u64 a10), (.int .u64 a11), (.int .u64 a12), (.bool a13), (.bool a14)])) w fun a2v1 w1 =>
 RUNA PG (Instr.box 38 (.agg #[(.int .i64 b), (.int .i64 b1), (.int .i64 b2), (.int .i64 b3), (.int .u64 b4), (.int .u64 b5), (.int .i64 b6), (.int .i64 b7), (.int .i64 b8), (.int .u64 b9), (.int .u64 b10), (.int .u64 b11), (.int .u64 b12), (.bool b13), (.bool b14)])) w1 fun a3v1 w2 =>
 RDI PG (loadVar 25 (Addr.add a2v1 12)) .u64 w2 fun x6 =>
 RDI PG (loadVar 25 (Addr.add a2v1 11)) .u64 w2 fun x8 =>
 IFB (decide (x6 > x8))
 (Q (.bool false) w2)
 (RDI PG (loadVar 25 (Addr.add a2v1 11)) .u64 w2 fun x12 =>
 RDI PG (loadVar 25 (Addr.add a3v1 9)) .u64 w2 fun x14 =>
 IFB (decide (x12 > x14))
 (Q (.bool false) w2)
 (RDI PG (loadVar 25 (Addr.add a2v1 10)) .u64 w2 fun x19 =>
 RDI PG (loadVar 25 (Addr.add a2v1 9)) .u64 w2 fun x21 =>
 IFB (decide (x19 > x21))
 (Q (.bool false) w2)
 (RDI PG (loadVar 25 (Addr.add a2v1 10)) .u64 w2 fun x26 =>
 RDI PG (loadVar 25 (Addr.add a3v1 11)) .u64 w2 fun x28 =>
 IFB (decide (x26 > x28))
 (Q (.bool false) w2)
 (RDB PG (loadVar 4 (Addr.add a2v1 14)) w2 fun x32 =>
 IFB (!x32)
 (LETB true fun x4 =>
 Q (.bool x4) w2)
 (RDB PG (loadVar 4 (Addr.add a3v1 13)) w2 fun x36 =>
 IFB x36
 (RDI PG (loadVar 25 (Addr.add a2v1 11)) .u64 w2 fun x39 =>
 RDI PG (loadVar 25 (Addr.add a3v1 9)) .u64 w2 fun x41 =>
 LETB (x39 == x41) fun x4v1 =>
 Q (.bool x4v1) w2)
 (LETB false fun x4v2 =>
 Q (.bool x4v2) w2))))))
theorem eq10 : ∀ (a : Int) (a1 : Int) (a2 : Int) (a3 : Int) (a4 : Int) (a5 : Int) (a6 : Int) (a7 : Int) (a8 : Int) (a9 : Int) (a10 : Int) (a11 : Int) (a12 : Int) (a13 : Bool) (a14 : Bool) (b : Int) (b1 : Int) (b2 : Int) (b3 : Int) (b4 : Int) (b5 : Int) (b6 : Int) (b7 : Int) (b8 : Int) (b9 : Int) (b10 : Int) (b11 : Int) (b12 : Int) (b13 : Bool) (b14 : Bool) (w : World) (Q : Value → World → Prop), vcF PG TB Tryz.f10 .nil [(.agg #[(.int .i64 a), (.int .i64 a1), (.int .i64 a2), (.int .i64 a3), (.int .u64 a4), (.int .u64 a5), (.int .i64 a6), (.int .i64 a7), (.int .i64 a8), (.int .u64 a9), (.int .u64 a10), (.int .u64 a11), (.int .u64 a12), (.bool a13), (.bool a14)]), (.agg #[(.int .i64 b), (.int .i64 b1), (.int .i64 b2), (.int .i64 b3), (.int .u64 b4), (.int .u64 b5), (.int .i64 b6), (.int .i64 b7), (.int .i64 b8), (.int .u64 b9), (.int .u64 b10), (.int .u64 b11), (.int .u64 b12), (.bool b13), (.bool b14)])] w Q = N10 a a1 a2 a3 a4 a5 a6 a7 a8 a9 a10 a11 a12 a13 a14 b b1 b2 b3 b4 b5 b6 b7 b8 b9 b10 b11 b12 b13 b14 w Q := by intros; kernel_rfl
theorem call10 {a : Int} {a1 : Int} {a2 : Int} {a3 : Int} {a4 : Int} {a5 : Int} {a6 : Int} {a7 : Int} {a8 : Int} {a9 : Int} {a10 : Int} {a11 : Int} {a12 : Int} {a13 : Bool} {a14 : Bool} {b : Int} {b1 : Int} {b2 : Int} {b3 : Int} {b4 : Int} {b5 : Int} {b6 : Int} {b7 : Int} {b8 : Int} {b9 : Int} {b10 : Int} {b11 : Int} {b12 : Int} {b13 : Bool} {b14 : Bool} {w : World} {Q : Value → World → Prop} (hN : N10 a a1 a2 a3 a4 a5 a6 a7 a8 a9 a10 a11 a12 a13 a14 b b1 b2 b3 b4 b5 b6 b7 b8 b9 b10 b11 b12 b13 b14 w Q) : CALL PG 10 [(.agg #[(.int .i64 a), (.int .i64 a1), (.int .i64 a2), (.int .i64 a3), (.int .u64 a4), (.int .u64 a5), (.int .i64 a6), (.int .i64 a7), (.int .i64 a8), (.int .u64 a9), (.int .u64 a10), (.int .u64 a11), (.int .u64 a12), (.bool a13), (.bool a14)]), (.agg #[(.int .i64 b), (.int .i64 b1), (.int .i64 b2), (.int .i64 b3), (.int .u64 b4), (.int .u64 b5), (.int .i64 b6), (.int .i64 b7), (.int .i64 b8), (.int .u64 b9), (.int .u64 b10), (.int .u64 b11), (.int .u64 b12), (.bool b13), (.bool b14)])] w Q := calls_vc tabOk Tryz.func10 (by rw [eq10]; exact hN)

end Go.Br

/- Whether two ends fit together, and which one is another one's peer: of the program and of the document. -/
set_option linter.unusedVariables false
set_option linter.unusedSimpArgs false
set_option linter.unnecessarySimpa false
namespace Go.Br
open Go
instance biAuditFita (x0 : Int) (x1 : Int) (x2 : Int) (x3 : Int) (x4 : Int) (x5 : Int) (x6 : Int) (x7 : Int) (x8 : Int) (x9 : Int) (x10 : Int) (x11 : Int) (x12 : Int) (x13 : Bool) (x14 : Bool) : Bld PG (Instr.build 38 #[(0, .int .i64 x0), (1, .int .i64 x1), (2, .int .i64 x2), (3, .int .i64 x3), (4, .agg #[.int .u64 x4, .int .u64 x5]), (5, .int .i64 x6), (6, .int .i64 x7), (7, .int .i64 x8), (8, .int .u64 x9), (9, .int .u64 x10), (10, .int .u64 x11), (11, .int .u64 x12), (12, .bool x13), (13, .bool x14)]) (.agg #[.int .i64 x0, .int .i64 x1, .int .i64 x2, .int .i64 x3, .int .u64 x4, .int .u64 x5, .int .i64 x6, .int .i64 x7, .int .i64 x8, .int .u64 x9, .int .u64 x10, .int .u64 x11, .int .u64 x12, .bool x13, .bool x14]) := ⟨fun w => by kernel_rfl⟩
instance biAuditFitb : Zro PG 38 15 112 (.agg #[.int .i64 0, .int .i64 0, .int .i64 0, .int .i64 0, .int .u64 0, .int .u64 0, .int .i64 0, .int .i64 0, .int .i64 0, .int .u64 0, .int .u64 0, .int .u64 0, .int .u64 0, .bool false, .bool false]) := ⟨tiOf (by kernel_rfl)⟩
attribute [local irreducible] Addr.add RD RDS RUN RUNU NILC LETB CALL CALLX CALLV

structure Ed where
  host : Int
  handle : Int
  iState : Int
  iCause : Int
  iRole : Int
  iIDK0 : Int
  iIDK1 : Int
  iFirstPath : Int
  iFirstLocal : Int
  iFirstRemote : Int
  iAccepted : Int
  iAcked : Int
  iCame : Int
  iRead : Int
  iClosed : Bool
  iEnded : Bool
  iSilence : Int
  iFlows : Int
  iUnder : Int
  iHeld : Int
def ed (x : Ed) : List Value := [.int .i64 x.host, .int .i64 x.handle, .int .i64 x.iState, .int .i64 x.iCause, .int .i64 x.iRole, .int .u64 x.iIDK0, .int .u64 x.iIDK1, .int .i64 x.iFirstPath, .int .u16 x.iFirstLocal, .int .u16 x.iFirstRemote, .int .u64 x.iAccepted, .int .u64 x.iAcked, .int .u64 x.iCame, .int .u64 x.iRead, .bool x.iClosed, .bool x.iEnded, .int .i64 x.iSilence, .int .i64 x.iFlows, .int .i64 x.iUnder, .int .i64 x.iHeld]
abbrev edv (x : Ed) : Value := .agg #[.int .i64 x.host, .int .i64 x.handle, .int .i64 x.iState, .int .i64 x.iCause, .int .i64 x.iRole, .int .u64 x.iIDK0, .int .u64 x.iIDK1, .int .i64 x.iFirstPath, .int .u16 x.iFirstLocal, .int .u16 x.iFirstRemote, .int .u64 x.iAccepted, .int .u64 x.iAcked, .int .u64 x.iCame, .int .u64 x.iRead, .bool x.iClosed, .bool x.iEnded, .int .i64 x.iSilence, .int .i64 x.iFlows, .int .i64 x.iUnder, .int .i64 x.iHeld]
theorem ed_length (x : Ed) : (ed x).length = 20 := rfl
theorem ed_flat1 (x : Ed) : Flat (ed x) := by intro v hv; simp [ed] at hv; rcases hv with rfl | rfl | rfl | rfl | rfl | rfl | rfl | rfl | rfl | rfl | rfl | rfl | rfl | rfl | rfl | rfl | rfl | rfl | rfl | rfl <;> rfl
theorem ed_flat (L : List Ed) : Flat (L.flatMap ed) := by
  intro v hv
  simp only [List.mem_flatMap] at hv
  obtain ⟨x, _, hx⟩ := hv
  exact ed_flat1 x v hx
structure Re where
  host : Int
  handle : Int
  state : Int
  role : Int
  idK0 : Int
  idK1 : Int
  loc : Int
  rem : Int
  path : Int
  acc : Int
  acked : Int
  came : Int
  read : Int
  closed : Bool
  ended : Bool
def re (x : Re) : List Value := [.int .i64 x.host, .int .i64 x.handle, .int .i64 x.state, .int .i64 x.role, .int .u64 x.idK0, .int .u64 x.idK1, .int .i64 x.loc, .int .i64 x.rem, .int .i64 x.path, .int .u64 x.acc, .int .u64 x.acked, .int .u64 x.came, .int .u64 x.read, .bool x.closed, .bool x.ended]
abbrev rev (x : Re) : Value := .agg #[.int .i64 x.host, .int .i64 x.handle, .int .i64 x.state, .int .i64 x.role, .int .u64 x.idK0, .int .u64 x.idK1, .int .i64 x.loc, .int .i64 x.rem, .int .i64 x.path, .int .u64 x.acc, .int .u64 x.acked, .int .u64 x.came, .int .u64 x.read, .bool x.closed, .bool x.ended]
theorem re_length (x : Re) : (re x).length = 15 := rfl
theorem re_flat1 (x : Re) : Flat (re x) := by intro v hv; simp [re] at hv; rcases hv with rfl | rfl | rfl | rfl | rfl | rfl | rfl | rfl | rfl | rfl | rfl | rfl | rfl | rfl | rfl <;> rfl
theorem re_flat (L : List Re) : Flat (L.flatMap re) := by
  intro v hv
  simp only [List.mem_flatMap] at hv
  obtain ⟨x, _, hx⟩ := hv
  exact re_flat1 x v hx
theorem tiEnd : TI PG 34 20 144 (.agg #[.int .i64 0, .int .i64 0, .int .i64 0, .int .i64 0, .int .i64 0, .int .u64 0, .int .u64 0, .int .i64 0, .int .u16 0, .int .u16 0, .int .u64 0, .int .u64 0, .int .u64 0, .int .u64 0, .bool false, .bool false, .int .i64 0, .int .i64 0, .int .i64 0, .int .i64 0]) := tiOf (by kernel_rfl)
theorem tiE27 : TI PG 38 15 112 (.agg #[.int .i64 0, .int .i64 0, .int .i64 0, .int .i64 0, .int .u64 0, .int .u64 0, .int .i64 0, .int .i64 0, .int .i64 0, .int .u64 0, .int .u64 0, .int .u64 0, .int .u64 0, .bool false, .bool false]) := tiOf (by kernel_rfl)
theorem huEnds : PG.underlying 35 = some (.slice 34) := by kernel_rfl
theorem huEs : PG.underlying 36 = some (.slice 38) := by kernel_rfl
/-- An end as the document's. -/
def plE (e : Ed) : Re := ⟨e.host, e.handle, e.iState, e.iRole, e.iIDK0, e.iIDK1, e.iFirstLocal, e.iFirstRemote, e.iFirstPath, e.iAccepted, e.iAcked, e.iCame, e.iRead, e.iClosed, e.iEnded⟩
def EdOk (e : Ed) : Prop := (0 ≤ e.iFirstLocal ∧ e.iFirstLocal < 65536) ∧ (0 ≤ e.iFirstRemote ∧ e.iFirstRemote < 65536)
def HalfP (a b : Re) : Prop := a.read ≤ a.came ∧ a.came ≤ b.acc ∧ a.acked ≤ a.acc ∧ a.acked ≤ b.came ∧ (a.ended = true → b.closed = true ∧ a.came = b.acc)
def FitP (a b : Re) : Prop := a.host ≠ b.host ∧ a.role ≠ b.role ∧ a.loc = b.rem ∧ a.rem = b.loc ∧ a.path = b.path ∧ HalfP a b ∧ HalfP b a
instance (a b : Re) : Decidable (HalfP a b) := by unfold HalfP; infer_instance
instance (a b : Re) : Decidable (FitP a b) := by unfold FitP; infer_instance
theorem FitP.comm {a b : Re} : FitP a b ↔ FitP b a := by
  unfold FitP
  constructor <;> (rintro ⟨h1, h2, h3, h4, h5, h6, h7⟩; exact ⟨fun e => h1 e.symm, fun e => h2 e.symm, h4.symm, h3.symm, h5.symm, h7, h6⟩)
/-- Another end of the same name. -/
def isMate (e x : Re) : Bool := (x.idK0 == e.idK0 && x.idK1 == e.idK1) && (x.host != e.host || x.handle != e.handle)
section
variable {c : Ctx} {w : World} {L R : List SA}
theorem plain_ok (h : St c w L) {e : Ed} (he : EdOk e) {Q : Value → World → Prop} (hk : ∀ w', St c w' L → Q (rev (plE e)) w') : CALL PG 4 [edv e] w Q := by
  refine call4 ?_
  unfold N4
  refine h.box (vs := ed e) fun p w' h => ?_
  refine h.allocZ fun q w' h => ?_
  simp only [add_add, Nat.reduceAdd]
  refine h.rdI (B := p) 0 (h.rdI (B := p) 1 (h.rdI (B := p) 2 (h.rdI (B := p) 4 ?_)))
  refine h.rdGo (B := p) 5 2 ?_
  (repeat (first | apply Exists.intro (α := Int) | apply Exists.intro (α := Bool) | apply Exists.intro (α := ByteArray) | (apply Exists.intro (α := Option Addr); apply Exists.intro (α := Nat); apply Exists.intro (α := Nat)) | apply Exists.intro (α := Option Addr) | apply Exists.intro (α := Value)))
  refine ⟨rfl, ?_⟩
  refine h.rdI (B := p) 8 (h.rdI (B := p) 9 (h.rdI (B := p) 7 (h.rdI (B := p) 10 (h.rdI (B := p) 11 (h.rdI (B := p) 12 (h.rdI (B := p) 13 (h.rdB (B := p) 14 (h.rdB (B := p) 15 ?_))))))))
  rw [wrap_i64 (n := e.iFirstLocal) (by have := he.1; omega) (by have := he.1; omega), wrap_i64 (n := e.iFirstRemote) (by have := he.2; omega) (by have := he.2; omega)]
  refine RD.bld ?_
  (repeat (first | apply Exists.intro (α := Int) | apply Exists.intro (α := Bool) | apply Exists.intro (α := ByteArray) | (apply Exists.intro (α := Option Addr); apply Exists.intro (α := Nat); apply Exists.intro (α := Nat)) | apply Exists.intro (α := Option Addr) | apply Exists.intro (α := Value)))
  refine ⟨rfl, ?_⟩
  refine h.stG (B := q) fun w' h => ?_
  refine h.rdG (B := q) ?_
  (repeat (first | apply Exists.intro (α := Int) | apply Exists.intro (α := Bool) | apply Exists.intro (α := ByteArray) | (apply Exists.intro (α := Option Addr); apply Exists.intro (α := Nat); apply Exists.intro (α := Nat)) | apply Exists.intro (α := Option Addr) | apply Exists.intro (α := Value)))
  refine ⟨rfl, ?_⟩
  exact hk _ h.drop.drop
theorem rhalf_ok (h : St c w L) {a b : Re} {Q : Value → World → Prop} (hk : ∀ w', St c w' L → Q (.bool (decide (HalfP a b))) w') : CALL PG 10 [rev a, rev b] w Q := by
  refine call10 ?_
  unfold N10
  refine h.box (vs := re a) fun p w' h => ?_
  refine h.box (vs := re b) fun q w' h => ?_
  have out : ∀ {w'}, St c w' (blk q 38 (re b) :: blk p 38 (re a) :: L) → ¬ HalfP a b → Q (.bool false) w' := fun h e => by have := hk _ h.drop.drop; rwa [decide_eq_false e] at this
  have yes : ∀ {w'}, St c w' (blk q 38 (re b) :: blk p 38 (re a) :: L) → HalfP a b → Q (.bool true) w' := fun h e => by have := hk _ h.drop.drop; rwa [decide_eq_true e] at this
  refine h.rdI (B := p) 12 (h.rdI (B := p) 11 (?_))
  refine ifd (fun e => out h fun f => by have := f.1; omega) fun h1 => ?_
  refine h.rdI (B := p) 11 (h.rdI (B := q) 9 (?_))
  refine ifd (fun e => out h fun f => by have := f.2.1; omega) fun h2 => ?_
  refine h.rdI (B := p) 10 (h.rdI (B := p) 9 (?_))
  refine ifd (fun e => out h fun f => by have := f.2.2.1; omega) fun h3 => ?_
  refine h.rdI (B := p) 10 (h.rdI (B := q) 11 (?_))
  refine ifd (fun e => out h fun f => by have := f.2.2.2.1; omega) fun h4 => ?_
  have mk : (a.ended = true → b.closed = true ∧ a.came = b.acc) → HalfP a b := fun k => ⟨by omega, by omega, by omega, by omega, k⟩
  refine h.rdB (B := p) 14 ?_
  refine ifb (fun e => letb rfl (yes h (mk fun k => by rw [k] at e; cases e))) fun e => ?_
  have e1 : a.ended = true := by simpa using e
  refine h.rdB (B := q) 13 ?_
  refine ifb (fun e2 => ?_) fun e2 => letb rfl (out h fun f => by have := (f.2.2.2.2 e1).1; rw [e2] at this; cases this)
  refine h.rdI (B := p) 11 (h.rdI (B := q) 9 ?_)
  by_cases e3 : a.came = b.acc
  · exact letb (y := true) (by simp [e3]) (yes h (mk fun _ => ⟨e2, e3⟩))
  · exact letb (y := false) (by simp [e3]) (out h fun f => e3 (f.2.2.2.2 e1).2)
theorem rfit_ok (h : St c w L) {a b : Re} {Q : Value → World → Prop} (hk : ∀ w', St c w' L → Q (.bool (decide (FitP a b))) w') : CALL PG 8 [rev a, rev b] w Q := by
  refine call8 ?_
  unfold N8
  refine h.box (vs := re a) fun p w' h => ?_
  refine h.box (vs := re b) fun q w' h => ?_
  have out : ∀ {w'}, St c w' (blk q 38 (re b) :: blk p 38 (re a) :: L) → ¬ FitP a b → Q (.bool false) w' := fun h e => by have := hk _ h.drop.drop; rwa [decide_eq_false e] at this
  refine h.rdI (B := p) 0 (h.rdI (B := q) 0 (ifq (fun e => out h fun f => f.1 e) fun h1 => ?_))
  refine h.rdI (B := p) 3 (h.rdI (B := q) 3 (ifq (fun e => out h fun f => f.2.1 e) fun h2 => ?_))
  refine h.rdI (B := p) 6 (h.rdI (B := q) 7 (ifn (fun e => out h fun f => e f.2.2.1) fun h3 => ?_))
  refine h.rdI (B := p) 7 (h.rdI (B := q) 6 (ifn (fun e => out h fun f => e f.2.2.2.1) fun h4 => ?_))
  refine h.rdI (B := p) 8 (h.rdI (B := q) 8 (ifn (fun e => out h fun f => e f.2.2.2.2.1) fun h5 => ?_))
  refine h.rdG (B := p) ?_
  (repeat (first | apply Exists.intro (α := Int) | apply Exists.intro (α := Bool) | apply Exists.intro (α := ByteArray) | (apply Exists.intro (α := Option Addr); apply Exists.intro (α := Nat); apply Exists.intro (α := Nat)) | apply Exists.intro (α := Option Addr) | apply Exists.intro (α := Value)))
  refine ⟨rfl, ?_⟩
  refine h.rdG (B := q) ?_
  (repeat (first | apply Exists.intro (α := Int) | apply Exists.intro (α := Bool) | apply Exists.intro (α := ByteArray) | (apply Exists.intro (α := Option Addr); apply Exists.intro (α := Nat); apply Exists.intro (α := Nat)) | apply Exists.intro (α := Option Addr) | apply Exists.intro (α := Value)))
  refine ⟨rfl, ?_⟩
  refine rhalf_ok h (a := a) (b := b) fun w' h => ?_
  (repeat (first | apply Exists.intro (α := Int) | apply Exists.intro (α := Bool) | apply Exists.intro (α := ByteArray) | (apply Exists.intro (α := Option Addr); apply Exists.intro (α := Nat); apply Exists.intro (α := Nat)) | apply Exists.intro (α := Option Addr) | apply Exists.intro (α := Value)))
  refine ⟨rfl, ?_⟩
  refine ifd (fun h6 => ?_) fun h6 => letb rfl (out h fun f => h6 f.2.2.2.2.2.1)
  refine h.rdG (B := q) ?_
  (repeat (first | apply Exists.intro (α := Int) | apply Exists.intro (α := Bool) | apply Exists.intro (α := ByteArray) | (apply Exists.intro (α := Option Addr); apply Exists.intro (α := Nat); apply Exists.intro (α := Nat)) | apply Exists.intro (α := Option Addr) | apply Exists.intro (α := Value)))
  refine ⟨rfl, ?_⟩
  refine h.rdG (B := p) ?_
  (repeat (first | apply Exists.intro (α := Int) | apply Exists.intro (α := Bool) | apply Exists.intro (α := ByteArray) | (apply Exists.intro (α := Option Addr); apply Exists.intro (α := Nat); apply Exists.intro (α := Nat)) | apply Exists.intro (α := Option Addr) | apply Exists.intro (α := Value)))
  refine ⟨rfl, ?_⟩
  refine rhalf_ok h (a := b) (b := a) fun w' h => ?_
  (repeat (first | apply Exists.intro (α := Int) | apply Exists.intro (α := Bool) | apply Exists.intro (α := ByteArray) | (apply Exists.intro (α := Option Addr); apply Exists.intro (α := Nat); apply Exists.intro (α := Nat)) | apply Exists.intro (α := Option Addr) | apply Exists.intro (α := Value)))
  refine ⟨rfl, ?_⟩
  have := hk _ h.drop.drop
  have e : decide (FitP a b) = decide (HalfP b a) := decide_eq_decide.2 ⟨fun f => f.2.2.2.2.2.2, fun k => ⟨h1, h2, h3, h4, h5, h6, k⟩⟩
  rw [e] at this
  exact letb rfl this
theorem fit_ok (h : St c w L) {a b : Ed} {Q : Value → World → Prop} (hk : ∀ w', St c w' L → Q (.bool (decide (FitP (plE a) (plE b)))) w') : CALL PG 7 [edv a, edv b] w Q := by
  refine call7 ?_
  unfold N7
  refine h.box (vs := ed a) fun p w' h => ?_
  refine h.box (vs := ed b) fun q w' h => ?_
  have out : ∀ {w'}, St c w' (blk q 34 (ed b) :: blk p 34 (ed a) :: L) → ¬ FitP (plE a) (plE b) → Q (.bool false) w' := fun h e => by have := hk _ h.drop.drop; rwa [decide_eq_false e] at this
  have yes : ∀ {w'}, St c w' (blk q 34 (ed b) :: blk p 34 (ed a) :: L) → FitP (plE a) (plE b) → Q (.bool true) w' := fun h e => by have := hk _ h.drop.drop; rwa [decide_eq_true e] at this
  simp only [add_add, Nat.reduceAdd]
  refine ⟨fun x w => x = decide (a.iFirstLocal = b.iFirstRemote ∧ a.iFirstRemote = b.iFirstLocal ∧ a.iFirstPath = b.iFirstPath) ∧ St c w (blk q 34 (ed b) :: blk p 34 (ed a) :: L), ?_, ?_⟩
  · refine h.rdI (B := p) 8 (h.rdI (B := q) 9 (ifq (fun e1 => ?_) fun e1 => letb rfl ⟨(decide_eq_false fun f => e1 f.1).symm, h⟩))
    refine h.rdI (B := p) 9 (h.rdI (B := q) 8 (ifq (fun e2 => ?_) fun e2 => letb rfl ⟨(decide_eq_false fun f => e2 f.2.1).symm, h⟩))
    refine h.rdI (B := p) 7 (h.rdI (B := q) 7 (letb rfl ⟨?_, h⟩))
    by_cases e3 : a.iFirstPath = b.iFirstPath
    · rw [decide_eq_true ⟨e1, e2, e3⟩]; simp [e3]
    · rw [decide_eq_false fun f => e3 f.2.2]; simp [e3]
  clear h
  rintro _ w' ⟨rfl, h⟩
  have noF : ∀ {x : Bool}, x = false → LETB x (fun y => Q (.bool y) w') → LETB false fun y => Q (.bool y) w' := fun {x} e k => by subst e; exact k
  refine h.rdI (B := p) 0 (h.rdI (B := q) 0 (ifn (fun h1 => ?_) fun e => letb rfl (out h fun f => f.1 e)))
  refine h.rdI (B := p) 4 (h.rdI (B := q) 4 (ifn (fun h2 => ?_) fun e => letb rfl (out h fun f => f.2.1 e)))
  refine ifd (fun h3 => ?_) fun h3 => letb rfl (out h fun f => h3 ⟨f.2.2.1, f.2.2.2.1, f.2.2.2.2.1⟩)
  refine h.rdI (B := p) 12 (h.rdI (B := q) 10 (ifd (fun h4 => ?_) fun e => letb rfl (out h fun f => e f.2.2.2.2.2.1.2.1)))
  refine h.rdI (B := q) 12 (h.rdI (B := p) 10 (ifd (fun h5 => ?_) fun e => letb rfl (out h fun f => e f.2.2.2.2.2.2.2.1)))
  refine h.rdI (B := p) 13 (h.rdI (B := p) 12 (ifd (fun h6 => ?_) fun e => letb rfl (out h fun f => e f.2.2.2.2.2.1.1)))
  refine h.rdI (B := q) 13 (h.rdI (B := q) 12 (ifd (fun h7 => ?_) fun e => letb rfl (out h fun f => e f.2.2.2.2.2.2.1)))
  refine h.rdI (B := p) 11 (h.rdI (B := p) 10 (ifd (fun h8 => ?_) fun e => letb rfl (out h fun f => e f.2.2.2.2.2.1.2.2.1)))
  refine h.rdI (B := q) 11 (h.rdI (B := q) 10 (ifd (fun h9 => ?_) fun e => letb rfl (out h fun f => e f.2.2.2.2.2.2.2.2.1)))
  refine h.rdI (B := p) 11 (h.rdI (B := q) 12 (ifd (fun h10 => ?_) fun e => letb rfl (out h fun f => e f.2.2.2.2.2.1.2.2.2.1)))
  refine h.rdI (B := q) 11 (h.rdI (B := p) 12 (ifd (fun h11 => ?_) fun e => letb rfl (out h fun f => e f.2.2.2.2.2.2.2.2.2.1)))
  have mk : (a.iEnded = true → b.iClosed = true ∧ a.iCame = b.iAccepted) → (b.iEnded = true → a.iClosed = true ∧ b.iCame = a.iAccepted) → FitP (plE a) (plE b) := fun k1 k2 => ⟨h1, h2, h3.1, h3.2.1, h3.2.2, ⟨h6, h4, h8, h10, k1⟩, h7, h5, h9, h11, k2⟩
  have last : (a.iEnded = true → b.iClosed = true ∧ a.iCame = b.iAccepted) → ∀ {K : Bool → Prop}, (K = fun x => LETB x fun y => Q (.bool y) w') →
      RDB PG (loadVar 4 (Addr.add ⟨q, 0, none⟩ 15)) w' fun x149 => IFB (!x149) (K true)
      (RDB PG (loadVar 4 (Addr.add ⟨p, 0, none⟩ 14)) w' fun x154 => IFB x154
      (RDI PG (loadVar 25 (Addr.add ⟨q, 0, none⟩ 12)) .u64 w' fun x158 => RDI PG (loadVar 25 (Addr.add ⟨p, 0, none⟩ 10)) .u64 w' fun x161 => K (x158 == x161)) (K false)) := fun k1 {K} hK => by
    subst hK
    refine h.rdB (B := q) 15 (?_)
    refine ifb (fun e => letb rfl (yes h (mk k1 fun k => by rw [k] at e; cases e))) fun e => ?_
    have e1 : b.iEnded = true := by simpa using e
    refine h.rdB (B := p) 14 (?_)
    refine ifb (fun e2 => ?_) fun e2 => letb rfl (out h fun f => by have := (f.2.2.2.2.2.2.2.2.2.2 e1).1; rw [show (plE a).closed = a.iClosed from rfl, e2] at this; cases this)
    refine h.rdI (B := q) 12 (h.rdI (B := p) 10 ?_)
    by_cases e3 : b.iCame = a.iAccepted
    · exact letb (y := true) (by simp [e3]) (yes h (mk k1 fun _ => ⟨e2, e3⟩))
    · exact letb (y := false) (by simp [e3]) (out h fun f => e3 (f.2.2.2.2.2.2.2.2.2.2 e1).2)
  refine h.rdB (B := p) 15 (?_)
  refine ifb (fun e => last (fun k => by rw [k] at e; cases e) rfl) fun e => ?_
  have e1 : a.iEnded = true := by simpa using e
  refine h.rdB (B := q) 14 (?_)
  refine ifb (fun e2 => ?_) fun e2 => letb rfl (out h fun f => by have := (f.2.2.2.2.2.1.2.2.2.2 e1).1; rw [show (plE b).closed = b.iClosed from rfl, e2] at this; cases this)
  refine h.rdI (B := p) 12 (h.rdI (B := q) 10 (ifq (fun e3 => last (fun _ => ⟨e2, e3⟩) rfl) fun e3 => letb rfl (out h fun f => e3 (f.2.2.2.2.2.1.2.2.2.2 e1).2)))
end
end Go.Br

/- What the code of some functions says, as the core reads it; each reading is checked by the kernel. -/
set_option linter.unusedVariables false
set_option maxRecDepth 100000
namespace Go.Br
open Go Go.Proofs

/-- brougham/audit.Peer -/
def N5 (e : Int) (e1 : Int) (e2 : Int) (e3 : Int) (e4 : Int) (e5 : Int) (e6 : Int) (e7 : Int) (e8 : Int) (e9 : Int) (e10 : Int) (e11 : Int) (e12 : Int) (e13 : Int) (e14 : Bool) (e15 : Bool) (e16 : Int) (e17 : Int) (e18 : Int) (e19 : Int) (l : Option Addr) (lN lC : Nat) (w : World) (Q : Value → World → Prop) : Prop :=
 RUNA PG (Instr.box 34 (.agg #[(.int .i64 e), (.int .i64 e1), (.int .i64 e2), (.int .i64 e3), (.int .i64 e4), (.int .u64 e5), (.int .u64 e6), (.int .i64 e7), (.int .u16 e8), (.int .u16 e9), (.int .u64 e10), (.int .u64 e11), (.int .u64 e12), (.int .u64 e13), (.bool e14), (.bool e15), (.int .i64 e16), (.int .i64 e17), (.int .i64 e18), (.int .i64 e19)])) w fun a2 w1 =>
 RUNA PG (Instr.alloc 34 true (.tuple #[])) w1 fun a4 w2 =>
 ∃ I : Nat → Option Addr → Nat → Nat → Int → World → Prop,
 (∃ m, I m none 0 0 (0 : Int) w2) ∧
 (∀ m1 (out : Option Addr) (outN outC : Nat) (x11 : Int) (w3 : World), I m1 out outN outC x11 w3 → (IFB (decide (x11 < (lN : Int)))
 (IDX l lN x11 fun a13 =>
 RD PG (loadVar 34 (Addr.add a13 (Int.toNat x11 * 20))) w3 fun v =>
 ∃ x14 : Int, ∃ x14v1 : Int, ∃ x14v2 : Int, ∃ x14v3 : Int, ∃ x14v4 : Int, ∃ x14v5 : Int, ∃ x14v6 : Int, ∃ x14v7 : Int, ∃ x14v8 : Int, ∃ x14v9 : Int, ∃ x14v10 : Int, ∃ x14v11 : Int, ∃ x14v12 : Int, ∃ x14v13 : Int, ∃ x14v14 : Bool, ∃ x14v15 : Bool, ∃ x14v16 : Int, ∃ x14v17 : Int, ∃ x14v18 : Int, ∃ x14v19 : Int, v = (.agg #[(.int .i64 x14), (.int .i64 x14v1), (.int .i64 x14v2), (.int .i64 x14v3), (.int .i64 x14v4), (.int .u64 x14v5), (.int .u64 x14v6), (.int .i64 x14v7), (.int .u16 x14v8), (.int .u16 x14v9), (.int .u64 x14v10), (.int .u64 x14v11), (.int .u64 x14v12), (.int .u64 x14v13), (.bool x14v14), (.bool x14v15), (.int .i64 x14v16), (.int .i64 x14v17), (.int .i64 x14v18), (.int .i64 x14v19)]) ∧
 (RUNA PG (Instr.alloc 34 true (.tuple #[])) w3 fun a8 w4 =>
 RUNU PG (storeVar 34 a8 (.agg #[(.int .i64 x14), (.int .i64 x14v1), (.int .i64 x14v2), (.int .i64 x14v3), (.int .i64 x14v4), (.int .u64 x14v5), (.int .u64 x14v6), (.int .i64 x14v7), (.int .u16 x14v8), (.int .u16 x14v9), (.int .u64 x14v10), (.int .u64 x14v11), (.int .u64 x14v12), (.int .u64 x14v13), (.bool x14v14), (.bool x14v15), (.int .i64 x14v16), (.int .i64 x14v17), (.int .i64 x14v18), (.int .i64 x14v19)])) w4 fun w5 =>
 RD PG (loadVar 27 (Addr.add (Addr.add a8 2) 3)) w5 fun v1 =>
 ∃ x17 : Int, ∃ x17v1 : Int, v1 = (.agg #[(.int .u64 x17), (.int .u64 x17v1)]) ∧
 (RD PG (loadVar 27 (Addr.add (Addr.add a2 2) 3)) w5 fun v2 =>
 ∃ x20 : Int, ∃ x20v1 : Int, v2 = (.agg #[(.int .u64 x20), (.int .u64 x20v1)]) ∧
 (RDB PG (do eqGuard .eql 27 (.tmp 17) (.tmp 20) (.agg #[(.int .u64 x17), (.int .u64 x17v1)]) (.agg #[(.int .u64 x20), (.int .u64 x20v1)]); binOp .eql 27 (.agg #[(.int .u64 x17), (.int .u64 x17v1)]) (.agg #[(.int .u64 x20), (.int .u64 x20v1)])) w5 fun x21 =>
 IFB x21
 (RDI PG (loadVar 3 (Addr.add a8 0)) .i64 w5 fun x24 =>
 RDI PG (loadVar 3 (Addr.add a2 0)) .i64 w5 fun x26 =>
 IFB (x24 != x26)
 (RD PG (loadVar 34 a8) w5 fun v3 =>
 ∃ x37 : Int, ∃ x37v1 : Int, ∃ x37v2 : Int, ∃ x37v3 : Int, ∃ x37v4 : Int, ∃ x37v5 : Int, ∃ x37v6 : Int, ∃ x37v7 : Int, ∃ x37v8 : Int, ∃ x37v9 : Int, ∃ x37v10 : Int, ∃ x37v11 : Int, ∃ x37v12 : Int, ∃ x37v13 : Int, ∃ x37v14 : Bool, ∃ x37v15 : Bool, ∃ x37v16 : Int, ∃ x37v17 : Int, ∃ x37v18 : Int, ∃ x37v19 : Int, v3 = (.agg #[(.int .i64 x37), (.int .i64 x37v1), (.int .i64 x37v2), (.int .i64 x37v3), (.int .i64 x37v4), (.int .u64 x37v5), (.int .u64 x37v6), (.int .i64 x37v7), (.int .u16 x37v8), (.int .u16 x37v9), (.int .u64 x37v10), (.int .u64 x37v11), (.int .u64 x37v12), (.int .u64 x37v13), (.bool x37v14), (.bool x37v15), (.int .i64 x37v16), (.int .i64 x37v17), (.int .i64 x37v18), (.int .i64 x37v19)]) ∧
 (RUNL PG (Instr.buildSlice 35 1 #[(0, (.agg #[(.int .i64 x37), (.int .i64 x37v1), (.int .i64 x37v2), (.int .i64 x37v3), (.int .i64 x37v4), (.int .u64 x37v5), (.int .u64 x37v6), (.int .i64 x37v7), (.int .u16 x37v8), (.int .u16 x37v9), (.int .u64 x37v10), (.int .u64 x37v11), (.int .u64 x37v12), (.int .u64 x37v13), (.bool x37v14), (.bool x37v15), (.int .i64 x37v16), (.int .i64 x37v17), (.int .i64 x37v18), (.int .i64 x37v19)]))]) w5 fun x38 x38N x38C w6 =>
 RUNL PG (Builtin.append_ #[35, 35] 35 #[(.slice out outN outC), (.slice x38 x38N x38C)]) w6 fun x39 x39N x39C w7 =>
 ∃ m2, m2 < m1 ∧ I m2 x39 x39N x39C (IntKind.i64.wrap (x11 + (1 : Int))) w7))
 (RDI PG (loadVar 3 (Addr.add a8 1)) .i64 w5 fun x30 =>
 RDI PG (loadVar 3 (Addr.add a2 1)) .i64 w5 fun x32 =>
 IFB (x30 != x32)
 (RD PG (loadVar 34 a8) w5 fun v4 =>
 ∃ x37v20 : Int, ∃ x37v21 : Int, ∃ x37v22 : Int, ∃ x37v23 : Int, ∃ x37v24 : Int, ∃ x37v25 : Int, ∃ x37v26 : Int, ∃ x37v27 : Int, ∃ x37v28 : Int, ∃ x37v29 : Int, ∃ x37v30 : Int, ∃ x37v31 : Int, ∃ x37v32 : Int, ∃ x37v33 : Int, ∃ x37v34 : Bool, ∃ x37v35 : Bool, ∃ x37v36 : Int, ∃ x37v37 : Int, ∃ x37v38 : Int, ∃ x37v39 : Int, v4 = (.agg #[(.int .i64 x37v20), (.int .i64 x37v21), (.int .i64 x37v22), (.int .i64 x37v23), (.int .i64 x37v24), (.int .u64 x37v25), (.int .u64 x37v26), (.int .i64 x37v27), (.int .u16 x37v28), (.int .u16 x37v29), (.int .u64 x37v30), (.int .u64 x37v31), (.int .u64 x37v32), (.int .u64 x37v33), (.bool x37v34), (.bool x37v35), (.int .i64 x37v36), (.int .i64 x37v37), (.int .i64 x37v38), (.int .i64 x37v39)]) ∧
 (RUNL PG (Instr.buildSlice 35 1 #[(0, (.agg #[(.int .i64 x37v20), (.int .i64 x37v21), (.int .i64 x37v22), (.int .i64 x37v23), (.int .i64 x37v24), (.int .u64 x37v25), (.int .u64 x37v26), (.int .i64 x37v27), (.int .u16 x37v28), (.int .u16 x37v29), (.int .u64 x37v30), (.int .u64 x37v31), (.int .u64 x37v32), (.int .u64 x37v33), (.bool x37v34), (.bool x37v35), (.int .i64 x37v36), (.int .i64 x37v37), (.int .i64 x37v38), (.int .i64 x37v39)]))]) w5 fun x38v1 x38N1 x38C1 w8 =>
 RUNL PG (Builtin.append_ #[35, 35] 35 #[(.slice out outN outC), (.slice x38v1 x38N1 x38C1)]) w8 fun x39v1 x39N1 x39C1 w9 =>
 ∃ m3, m3 < m1 ∧ I m3 x39v1 x39N1 x39C1 (IntKind.i64.wrap (x11 + (1 : Int))) w9))
 (∃ m4, m4 < m1 ∧ I m4 out outN outC (IntKind.i64.wrap (x11 + (1 : Int))) w5)))
 (∃ m5, m5 < m1 ∧ I m5 out outN outC (IntKind.i64.wrap (x11 + (1 : Int))) w5)))))
 (IFB ((outN : Int) != (1 : Int))
 (RD PG (Instr.build 34 #[]) w3 fun v5 =>
 ∃ x44 : Int, ∃ x44v1 : Int, ∃ x44v2 : Int, ∃ x44v3 : Int, ∃ x44v4 : Int, ∃ x44v5 : Int, ∃ x44v6 : Int, ∃ x44v7 : Int, ∃ x44v8 : Int, ∃ x44v9 : Int, ∃ x44v10 : Int, ∃ x44v11 : Int, ∃ x44v12 : Int, ∃ x44v13 : Int, ∃ x44v14 : Bool, ∃ x44v15 : Bool, ∃ x44v16 : Int, ∃ x44v17 : Int, ∃ x44v18 : Int, ∃ x44v19 : Int, v5 = (.agg #[(.int .i64 x44), (.int .i64 x44v1), (.int .i64 x44v2), (.int .i64 x44v3), (.int .i64 x44v4), (.int .u64 x44v5), (.int .u64 x44v6), (.int .i64 x44v7), (.int .u16 x44v8), (.int .u16 x44v9), (.int .u64 x44v10), (.int .u64 x44v11), (.int .u64 x44v12), (.int .u64 x44v13), (.bool x44v14), (.bool x44v15), (.int .i64 x44v16), (.int .i64 x44v17), (.int .i64 x44v18), (.int .i64 x44v19)]) ∧
 (RUNU PG (storeVar 34 a4 (.agg #[(.int .i64 x44), (.int .i64 x44v1), (.int .i64 x44v2), (.int .i64 x44v3), (.int .i64 x44v4), (.int .u64 x44v5), (.int .u64 x44v6), (.int .i64 x44v7), (.int .u16 x44v8), (.int .u16 x44v9), (.int .u64 x44v10), (.int .u64 x44v11), (.int .u64 x44v12), (.int .u64 x44v13), (.bool x44v14), (.bool x44v15), (.int .i64 x44v16), (.int .i64 x44v17), (.int .i64 x44v18), (.int .i64 x44v19)])) w3 fun w10 =>
 RD PG (loadVar 34 a4) w10 fun v7 =>
 ∃ r : Int, ∃ r1 : Int, ∃ r2 : Int, ∃ r3 : Int, ∃ r4 : Int, ∃ r5 : Int, ∃ r6 : Int, ∃ r7 : Int, ∃ r8 : Int, ∃ r9 : Int, ∃ r10 : Int, ∃ r11 : Int, ∃ r12 : Int, ∃ r13 : Int, ∃ r14 : Bool, ∃ r15 : Bool, ∃ r16 : Int, ∃ r17 : Int, ∃ r18 : Int, ∃ r19 : Int, v7 = (.agg #[(.int .i64 r), (.int .i64 r1), (.int .i64 r2), (.int .i64 r3), (.int .i64 r4), (.int .u64 r5), (.int .u64 r6), (.int .i64 r7), (.int .u16 r8), (.int .u16 r9), (.int .u64 r10), (.int .u64 r11), (.int .u64 r12), (.int .u64 r13), (.bool r14), (.bool r15), (.int .i64 r16), (.int .i64 r17), (.int .i64 r18), (.int .i64 r19)]) ∧
 (Q (.tuple #[(.agg #[(.int .i64 r), (.int .i64 r1), (.int .i64 r2), (.int .i64 r3), (.int .i64 r4), (.int .u64 r5), (.int .u64 r6), (.int .i64 r7), (.int .u16 r8), (.int .u16 r9), (.int .u64 r10), (.int .u64 r11), (.int .u64 r12), (.int .u64 r13), (.bool r14), (.bool r15), (.int .i64 r16), (.int .i64 r17), (.int .i64 r18), (.int .i64 r19)]), (.bool false)]) w10)))
 (IDX out outN (0 : Int) fun a46 =>
 RD PG (loadVar 34 (Addr.add a46 (Int.toNat (0 : Int) * 20))) w3 fun v8 =>
 ∃ x47 : Int, ∃ x47v1 : Int, ∃ x47v2 : Int, ∃ x47v3 : Int, ∃ x47v4 : Int, ∃ x47v5 : Int, ∃ x47v6 : Int, ∃ x47v7 : Int, ∃ x47v8 : Int, ∃ x47v9 : Int, ∃ x47v10 : Int, ∃ x47v11 : Int, ∃ x47v12 : Int, ∃ x47v13 : Int, ∃ x47v14 : Bool, ∃ x47v15 : Bool, ∃ x47v16 : Int, ∃ x47v17 : Int, ∃ x47v18 : Int, ∃ x47v19 : Int, v8 = (.agg #[(.int .i64 x47), (.int .i64 x47v1), (.int .i64 x47v2), (.int .i64 x47v3), (.int .i64 x47v4), (.int .u64 x47v5), (.int .u64 x47v6), (.int .i64 x47v7), (.int .u16 x47v8), (.int .u16 x47v9), (.int .u64 x47v10), (.int .u64 x47v11), (.int .u64 x47v12), (.int .u64 x47v13), (.bool x47v14), (.bool x47v15), (.int .i64 x47v16), (.int .i64 x47v17), (.int .i64 x47v18), (.int .i64 x47v19)]) ∧
 (RUNU PG (storeVar 34 a4 (.agg #[(.int .i64 x47), (.int .i64 x47v1), (.int .i64 x47v2), (.int .i64 x47v3), (.int .i64 x47v4), (.int .u64 x47v5), (.int .u64 x47v6), (.int .i64 x47v7), (.int .u16 x47v8), (.int .u16 x47v9), (.int .u64 x47v10), (.int .u64 x47v11), (.int .u64 x47v12), (.int .u64 x47v13), (.bool x47v14), (.bool x47v15), (.int .i64 x47v16), (.int .i64 x47v17), (.int .i64 x47v18), (.int .i64 x47v19)])) w3 fun w11 =>
 RD PG (loadVar 34 a4) w11 fun v10 =>
 ∃ r20 : Int, ∃ r21 : Int, ∃ r22 : Int, ∃ r23 : Int, ∃ r24 : Int, ∃ r25 : Int, ∃ r26 : Int, ∃ r27 : Int, ∃ r28 : Int, ∃ r29 : Int, ∃ r30 : Int, ∃ r31 : Int, ∃ r32 : Int, ∃ r33 : Int, ∃ r34 : Bool, ∃ r35 : Bool, ∃ r36 : Int, ∃ r37 : Int, ∃ r38 : Int, ∃ r39 : Int, v10 = (.agg #[(.int .i64 r20), (.int .i64 r21), (.int .i64 r22), (.int .i64 r23), (.int .i64 r24), (.int .u64 r25), (.int .u64 r26), (.int .i64 r27), (.int .u16 r28), (.int .u16 r29), (.int .u64 r30), (.int .u64 r31), (.int .u64 r32), (.int .u64 r33), (.bool r34), (.bool r35), (.int .i64 r36), (.int .i64 r37), (.int .i64 r38), (.int .i64 r39)]) ∧
 (Q (.tuple #[(.agg #[(.int .i64 r20), (.int .i64 r21), (.int .i64 r22), (.int .i64 r23), (.int .i64 r24), (.int .u64 r25), (.int .u64 r26), (.int .i64 r27), (.int .u16 r28), (.int .u16 r29), (.int .u64 r30), (.int .u64 r31), (.int .u64 r32), (.int .u64 r33), (.bool r34), (.bool r35), (.int .i64 r36), (.int .i64 r37), (.int .i64 r38), (.int .i64 r39)]), (.bool true)]) w11))))))
theorem eq5 : ∀ (e : Int) (e1 : Int) (e2 : Int) (e3 : Int) (e4 : Int) (e5 : Int) (e6 : Int) (e7 : Int) (e8 : Int) (e9 : Int) (e10 : Int) (e11 : Int) (e12 : Int) (e13 : Int) (e14 : Bool) (e15 : Bool) (e16 : Int) (e17 : Int) (e18 : Int) (e19 : Int) (l : Option Addr) (lN lC : Nat) (w : World) (Q : Value → World → Prop), vcF PG TB Tryz.f5 (.s .nil (.s .nil (.s (.s .nil (.u (.loop [(6, 35), (11, 3)] .nil))) .nil))) [(.agg #[(.int .i64 e), (.int .i64 e1), (.int .i64 e2), (.int .i64 e3), (.int .i64 e4), (.int .u64 e5), (.int .u64 e6), (.int .i64 e7), (.int .u16 e8), (.int .u16 e9), (.int .u64 e10), (.int .u64 e11), (.int .u64 e12), (.int .u64 e13), (.bool e14), (.bool e15), (.int .i64 e16), (.int .i64 e17), (.int .i64 e18), (.int .i64 e19)]), (.slice l lN lC)] w Q = N5 e e1 e2 e3 e4 e5 e6 e7 e8 e9 e10 e11 e12 e13 e14 e15 e16 e17 e18 e19 l lN lC w Q := by intros; kernel_rfl
theorem call5 {e : Int} {e1 : Int} {e2 : Int} {e3 : Int} {e4 : Int} {e5 : Int} {e6 : Int} {e7 : Int} {e8 : Int} {e9 : Int} {e10 : Int} {e11 : Int} {e12 : Int} {e13 : Int} {e14 : Bool} {e15 : Bool} {e16 : Int} {e17 : Int} {e18 : Int} {e19 : Int} {l : Option Addr} {lN lC : Nat} {w : World} {Q : Value → World → Prop} (hN : N5 e e1 e2 e3 e4 e5 e6 e7 e8 e9 e10 e11 e12 e13 e14 e15 e16 e17 e18 e19 l lN lC w Q) : CALL PG 5 [(.agg #[(.int .i64 e), (.int .i64 e1), (.int .i64 e2), (.int .i64 e3), (.int .i64 e4), (.int .u64 e5), (.int .u64 e6), (.int .i64 e7), (.int .u16 e8), (.int .u16 e9), (.int .u64 e10), (.int .u64 e11), (.int .u64 e12), (.int .u64 e13), (.bool e14), (.bool e15), (.int .i64 e16), (.int .i64 e17), (.int .i64 e18), (.int .i64 e19)]), (.slice l lN lC)] w Q := calls_vc tabOk Tryz.func5 (by rw [eq5]; exact hN)

/-- brougham/broughamref27.Peer -/
def N6 (e : Int) (e1 : Int) (e2 : Int) (e3 : Int) (e4 : Int) (e5 : Int) (e6 : Int) (e7 : Int) (e8 : Int) (e9 : Int) (e10 : Int) (e11 : Int) (e12 : Int) (e13 : Bool) (e14 : Bool) (l : Option Addr) (lN lC : Nat) (w : World) (Q : Value → World → Prop) : Prop :=
 RUNA PG (Instr.box 38 (.agg #[(.int .i64 e), (.int .i64 e1), (.int .i64 e2), (.int .i64 e3), (.int .u64 e4), (.int .u64 e5), (.int .i64 e6), (.int .i64 e7), (.int .i64 e8), (.int .u64 e9), (.int .u64 e10), (.int .u64 e11), (.int .u64 e12), (.bool e13), (.bool e14)])) w fun a2 w1 =>
 ∃ I : Nat → Int → Int → World → Prop,
 (∃ m, I m (-1 : Int) (0 : Int) w1) ∧
 (∀ m1 (atv : Int) (i : Int) (w2 : World), I m1 atv i w2 → (IFB (decide (i < (lN : Int)))
 (IDX l lN i fun a15 =>
 RD PG (loadVar 27 (Addr.add (Addr.add a15 (Int.toNat i * 15)) 4)) (w2.drew) fun v =>
 ∃ x17 : Int, ∃ x17v1 : Int, v = (.agg #[(.int .u64 x17), (.int .u64 x17v1)]) ∧
 (RD PG (loadVar 27 (Addr.add a2 4)) (w2.drew) fun v1 =>
 ∃ x19 : Int, ∃ x19v1 : Int, v1 = (.agg #[(.int .u64 x19), (.int .u64 x19v1)]) ∧
 (RDB PG (do eqGuard .neq 27 (.tmp 17) (.tmp 19) (.agg #[(.int .u64 x17), (.int .u64 x17v1)]) (.agg #[(.int .u64 x19), (.int .u64 x19v1)]); binOp .neq 27 (.agg #[(.int .u64 x17), (.int .u64 x17v1)]) (.agg #[(.int .u64 x19), (.int .u64 x19v1)])) (w2.drew) fun x20 =>
 IFB x20
 (LETI (IntKind.i64.wrap (i + (1 : Int))) fun i1 =>
 ∃ m2, m2 < m1 ∧ I m2 atv i1 (w2.drew))
 (IDX l lN i fun a24 =>
 RDI PG (loadVar 3 (Addr.add (Addr.add a24 (Int.toNat i * 15)) 0)) .i64 (w2.drew) fun x26 =>
 RDI PG (loadVar 3 (Addr.add a2 0)) .i64 (w2.drew) fun x28 =>
 IFB (x26 == x28)
 (IDX l lN i fun a33 =>
 RDI PG (loadVar 3 (Addr.add (Addr.add a33 (Int.toNat i * 15)) 1)) .i64 (w2.drew) fun x35 =>
 RDI PG (loadVar 3 (Addr.add a2 1)) .i64 (w2.drew) fun x37 =>
 IFB (x35 == x37)
 (LETI (IntKind.i64.wrap (i + (1 : Int))) fun i2 =>
 ∃ m3, m3 < m1 ∧ I m3 atv i2 (w2.drew))
 (IFB (decide (atv ≥ (0 : Int)))
 (Q (.int .i64 (-1 : Int)) (w2.drew))
 (LETI i fun atv1 =>
 LETI (IntKind.i64.wrap (i + (1 : Int))) fun i3 =>
 ∃ m4, m4 < m1 ∧ I m4 atv1 i3 (w2.drew))))
 (IFB (decide (atv ≥ (0 : Int)))
 (Q (.int .i64 (-1 : Int)) (w2.drew))
 (LETI i fun atv2 =>
 LETI (IntKind.i64.wrap (i + (1 : Int))) fun i4 =>
 ∃ m5, m5 < m1 ∧ I m5 atv2 i4 (w2.drew)))))))
 (LETI atv fun x4 =>
 Q (.int .i64 x4) w2)))
theorem eq6 : ∀ (e : Int) (e1 : Int) (e2 : Int) (e3 : Int) (e4 : Int) (e5 : Int) (e6 : Int) (e7 : Int) (e8 : Int) (e9 : Int) (e10 : Int) (e11 : Int) (e12 : Int) (e13 : Bool) (e14 : Bool) (l : Option Addr) (lN lC : Nat) (w : World) (Q : Value → World → Prop), vcF PG TB Tryz.f6 (.s .nil (.s .nil (.s (.s .nil (.u (.loop [(5, 3), (6, 3)] .nil))) .nil))) [(.agg #[(.int .i64 e), (.int .i64 e1), (.int .i64 e2), (.int .i64 e3), (.int .u64 e4), (.int .u64 e5), (.int .i64 e6), (.int .i64 e7), (.int .i64 e8), (.int .u64 e9), (.int .u64 e10), (.int .u64 e11), (.int .u64 e12), (.bool e13), (.bool e14)]), (.slice l lN lC)] w Q = N6 e e1 e2 e3 e4 e5 e6 e7 e8 e9 e10 e11 e12 e13 e14 l lN lC w Q := by intros; kernel_rfl
theorem call6 {e : Int} {e1 : Int} {e2 : Int} {e3 : Int} {e4 : Int} {e5 : Int} {e6 : Int} {e7 : Int} {e8 : Int} {e9 : Int} {e10 : Int} {e11 : Int} {e12 : Int} {e13 : Bool} {e14 : Bool} {l : Option Addr} {lN lC : Nat} {w : World} {Q : Value → World → Prop} (hN : N6 e e1 e2 e3 e4 e5 e6 e7 e8 e9 e10 e11 e12 e13 e14 l lN lC w Q) : CALL PG 6 [(.agg #[(.int .i64 e), (.int .i64 e1), (.int .i64 e2), (.int .i64 e3), (.int .u64 e4), (.int .u64 e5), (.int .i64 e6), (.int .i64 e7), (.int .i64 e8), (.int .u64 e9), (.int .u64 e10), (.int .u64 e11), (.int .u64 e12), (.bool e13), (.bool e14)]), (.slice l lN lC)] w Q := calls_vc tabOk Tryz.func6 (by rw [eq6]; exact hN)

end Go.Br

/- Which end is another one's peer: of the program and of the document. -/
set_option linter.unusedVariables false
set_option linter.unusedSimpArgs false
set_option linter.unnecessarySimpa false
namespace Go.Br
open Go
instance biAuditPeera : Bld PG (Instr.build 34 #[]) (.agg #[.int .i64 0, .int .i64 0, .int .i64 0, .int .i64 0, .int .i64 0, .int .u64 0, .int .u64 0, .int .i64 0, .int .u16 0, .int .u16 0, .int .u64 0, .int .u64 0, .int .u64 0, .int .u64 0, .bool false, .bool false, .int .i64 0, .int .i64 0, .int .i64 0, .int .i64 0]) := ⟨fun w => by kernel_rfl⟩
instance biAuditPeerb : Zro PG 34 20 144 (.agg #[.int .i64 0, .int .i64 0, .int .i64 0, .int .i64 0, .int .i64 0, .int .u64 0, .int .u64 0, .int .i64 0, .int .u16 0, .int .u16 0, .int .u64 0, .int .u64 0, .int .u64 0, .int .u64 0, .bool false, .bool false, .int .i64 0, .int .i64 0, .int .i64 0, .int .i64 0]) := ⟨tiOf (by kernel_rfl)⟩
attribute [local irreducible] Addr.add RD RDS RUN RUNU NILC LETB CALL CALLX CALLV

def ed0 : Ed := ⟨0, 0, 0, 0, 0, 0, 0, 0, 0, 0, 0, 0, 0, 0, false, false, 0, 0, 0, 0⟩
def mates (e : Ed) (l : List Ed) : List Ed := l.filter fun x => isMate (plE e) (plE x)
def matesR (e : Re) (l : List Re) : List Re := l.filter (isMate e)
theorem matesR_map {e : Ed} {l : List Ed} : matesR (plE e) (l.map plE) = (mates e l).map plE := by
  unfold matesR mates
  rw [List.filter_map]
  rfl
section
variable {c : Ctx} {w : World} {L R : List SA} {A : Option Addr} {k : Nat}
theorem peer_ok (h : St c w L) {e : Ed} {l : List Ed} (hr : RdIn L A (l.flatMap ed)) (hl : l.length ≤ 1000) {Q : Value → World → Prop}
    (hone : ∀ x w', mates e l = [x] → St c w' L → Q (.tuple #[edv x, .bool true]) w') (hno : (mates e l).length ≠ 1 → ∀ w', St c w' L → Q (.tuple #[edv ed0, .bool false]) w') :
    CALL PG 5 [edv e, .slice A l.length k] w Q := by
  refine call5 ?_
  unfold N5
  refine h.box (vs := ed e) fun p w' h => ?_
  refine h.allocZ fun q w' h => ?_
  have h := h.addOwnNil 34 20
  refine ⟨fun m o oN oC x w => ∃ j : Nat, x = j ∧ m = l.length - j ∧ j ≤ l.length ∧ oN = (mates e (l.take j)).length ∧ St c w (own 34 20 o oN oC ((mates e (l.take j)).flatMap ed) :: blk q 34 (ed ed0) :: blk p 34 (ed e) :: L), ⟨_, 0, rfl, rfl, Nat.zero_le _, rfl, h⟩, ?_⟩
  clear h
  rintro m o oN oC x w' ⟨j, rfl, rfl, hj, rfl, h⟩
  have hmj : (mates e (l.take j)).length ≤ 1000 := by
    have := List.length_filter_le (fun x => isMate (plE e) (plE x)) (l.take j)
    rw [List.length_take] at this
    unfold mates
    omega
  by_cases hjl : j < l.length
  rotate_left
  · obtain rfl : j = l.length := by omega
    rw [List.take_length] at h
    refine ifdf (by omega) ?_
    rw [List.take_length]
    refine ifn (fun hne => ?_) fun he => ?_
    · refine RD.bld ?_
      (repeat (first | apply Exists.intro (α := Int) | apply Exists.intro (α := Bool) | apply Exists.intro (α := ByteArray) | (apply Exists.intro (α := Option Addr); apply Exists.intro (α := Nat); apply Exists.intro (α := Nat)) | apply Exists.intro (α := Option Addr) | apply Exists.intro (α := Value)))
      refine ⟨rfl, ?_⟩
      refine h.stG (B := q) fun w' h => ?_
      refine h.rdG (B := q) ?_
      (repeat (first | apply Exists.intro (α := Int) | apply Exists.intro (α := Bool) | apply Exists.intro (α := ByteArray) | (apply Exists.intro (α := Option Addr); apply Exists.intro (α := Nat); apply Exists.intro (α := Nat)) | apply Exists.intro (α := Option Addr) | apply Exists.intro (α := Value)))
      refine ⟨rfl, ?_⟩
      exact hno (fun e => hne (by omega)) _ (h.sub ((Sub.same _).more.more.more))
    · obtain ⟨x, hx⟩ : ∃ x, mates e l = [x] := List.length_eq_one_iff.1 (by omega)
      have rd : RdIn (own 34 20 o (mates e l).length oC ((mates e l).flatMap ed) :: blk q 34 (ed ed0) :: blk p 34 (ed e) :: L) o ((mates e l).flatMap ed) := RdIn.own .head
      have hg : (mates e l)[0]? = some x := by rw [hx]; rfl
      refine h.ix (z := 19) (i := 0) rd hg (fun a ha => ?_) (by omega)
      have rd2 := rd
      subst ha
      refine h.rdEG (i := 0) rd2 hg ?_
      (repeat (first | apply Exists.intro (α := Int) | apply Exists.intro (α := Bool) | apply Exists.intro (α := ByteArray) | (apply Exists.intro (α := Option Addr); apply Exists.intro (α := Nat); apply Exists.intro (α := Nat)) | apply Exists.intro (α := Option Addr) | apply Exists.intro (α := Value)))
      refine ⟨rfl, ?_⟩
      refine h.stG (B := q) fun w' h => ?_
      refine h.rdG (B := q) ?_
      (repeat (first | apply Exists.intro (α := Int) | apply Exists.intro (α := Bool) | apply Exists.intro (α := ByteArray) | (apply Exists.intro (α := Option Addr); apply Exists.intro (α := Nat); apply Exists.intro (α := Nat)) | apply Exists.intro (α := Option Addr) | apply Exists.intro (α := Value)))
      refine ⟨rfl, ?_⟩
      exact hone x _ hx (h.sub ((Sub.same _).more.more.more))
  obtain ⟨x, hx⟩ : ∃ x, l[j]? = some x := ⟨_, List.getElem?_eq_getElem hjl⟩
  have e3 : IntKind.i64.wrap ((j : Int) + 1) = ((j + 1 : Nat) : Int) := by rw [wrap_i64 (by omega) (by omega)]; rfl
  have etk : mates e (l.take (j + 1)) = mates e (l.take j) ++ (if isMate (plE e) (plE x) then [x] else []) := by
    rw [List.take_add_one, hx, mates, List.filter_append]
    show _ ++ List.filter _ [x] = _
    rw [List.filter_cons]
    rfl
  refine ifdt (by omega) ?_
  refine h.ix (z := 19) hr.more.more.more hx (fun a ha => ?_) (by omega)
  have hr1 := hr
  rw [ha] at hr1
  refine h.rdEG hr1.more.more.more hx ?_
  (repeat (first | apply Exists.intro (α := Int) | apply Exists.intro (α := Bool) | apply Exists.intro (α := ByteArray) | (apply Exists.intro (α := Option Addr); apply Exists.intro (α := Nat); apply Exists.intro (α := Nat)) | apply Exists.intro (α := Option Addr) | apply Exists.intro (α := Value)))
  refine ⟨rfl, ?_⟩
  refine h.allocZ fun q8 w' h => ?_
  refine h.stG (B := q8) fun w' h => ?_
  simp only [add_add, Nat.reduceAdd]
  refine h.rdGo (B := q8) 5 2 ?_
  (repeat (first | apply Exists.intro (α := Int) | apply Exists.intro (α := Bool) | apply Exists.intro (α := ByteArray) | (apply Exists.intro (α := Option Addr); apply Exists.intro (α := Nat); apply Exists.intro (α := Nat)) | apply Exists.intro (α := Option Addr) | apply Exists.intro (α := Value)))
  refine ⟨rfl, ?_⟩
  refine h.rdGo (B := p) 5 2 ?_
  (repeat (first | apply Exists.intro (α := Int) | apply Exists.intro (α := Bool) | apply Exists.intro (α := ByteArray) | (apply Exists.intro (α := Option Addr); apply Exists.intro (α := Nat); apply Exists.intro (α := Nat)) | apply Exists.intro (α := Option Addr) | apply Exists.intro (α := Value)))
  refine ⟨rfl, ?_⟩
  refine RDB.eqN (x.iIDK0 == e.iIDK0 && (x.iIDK1 == e.iIDK1 && true)) ?_
  have skip : isMate (plE e) (plE x) = false → ∀ {w'}, St c w' (blk q8 34 (ed x) :: own 34 20 o (mates e (l.take j)).length oC ((mates e (l.take j)).flatMap ed) :: blk q 34 (ed ed0) :: blk p 34 (ed e) :: L) →
      ∃ m2, m2 < l.length - j ∧ ∃ j' : Nat, IntKind.i64.wrap ((j : Int) + 1) = j' ∧ m2 = l.length - j' ∧ j' ≤ l.length ∧ (mates e (l.take j)).length = (mates e (l.take j')).length ∧ St c w' (own 34 20 o (mates e (l.take j)).length oC ((mates e (l.take j')).flatMap ed) :: blk q 34 (ed ed0) :: blk p 34 (ed e) :: L) := fun hf {w'} h => by
    refine ⟨l.length - (j + 1), by omega, j + 1, e3, rfl, by omega, ?_⟩
    rw [etk, hf]
    simp only [Bool.false_eq_true, if_false, List.append_nil]
    exact ⟨trivial, h.drop⟩
  have take : isMate (plE e) (plE x) = true → ∀ {w'}, St c w' (blk q8 34 (ed x) :: own 34 20 o (mates e (l.take j)).length oC ((mates e (l.take j)).flatMap ed) :: blk q 34 (ed ed0) :: blk p 34 (ed e) :: L) →
      RUNL PG (Instr.buildSlice 35 1 #[(0, edv x)]) w' fun x38 x38N x38C w6 =>
      RUNL PG (Builtin.append_ #[35, 35] 35 #[(.slice o (mates e (l.take j)).length oC), (.slice x38 x38N x38C)]) w6 fun x39 x39N x39C w7 =>
      ∃ m2, m2 < l.length - j ∧ ∃ j' : Nat, IntKind.i64.wrap ((j : Int) + 1) = j' ∧ m2 = l.length - j' ∧ j' ≤ l.length ∧ x39N = (mates e (l.take j')).length ∧ St c w7 (own 34 20 x39 x39N x39C ((mates e (l.take j')).flatMap ed) :: blk q 34 (ed ed0) :: blk p 34 (ed e) :: L) := fun hf {w'} h => by
    refine h.app1 huEnds tiEnd (ed x) (.tail .head) (ed_flat1 x) (by omega) fun O d w' h => ?_
    refine ⟨l.length - (j + 1), by omega, j + 1, e3, rfl, by omega, ?_⟩
    rw [etk, hf]
    simp only [if_true, List.length_append, List.length_cons, List.length_nil, List.flatMap_append, List.flatMap_cons, List.flatMap_nil, List.append_nil]
    exact ⟨trivial, h.sub (.cons .head ((Sub.same _).more))⟩
  refine ifb (fun hid => ?_) fun hid => skip (by unfold isMate plE; simp at hid ⊢; intro a b; exact absurd b (hid a)) h
  have hid2 : x.iIDK0 = e.iIDK0 ∧ x.iIDK1 = e.iIDK1 := by simpa using hid
  refine h.rdI (B := q8) 0 (h.rdI (B := p) 0 ?_)
  refine ifn (fun hh => ?_) fun hh => ?_
  · refine h.rdG (B := q8) ?_
    (repeat (first | apply Exists.intro (α := Int) | apply Exists.intro (α := Bool) | apply Exists.intro (α := ByteArray) | (apply Exists.intro (α := Option Addr); apply Exists.intro (α := Nat); apply Exists.intro (α := Nat)) | apply Exists.intro (α := Option Addr) | apply Exists.intro (α := Value)))
    refine ⟨rfl, ?_⟩
    exact take (by unfold isMate plE; simp [hid2.1, hid2.2, hh]) h
  · refine h.rdI (B := q8) 1 (h.rdI (B := p) 1 ?_)
    refine ifn (fun hh2 => ?_) fun hh2 => skip (by unfold isMate plE; simp [hh, hh2]) h
    refine h.rdG (B := q8) ?_
    (repeat (first | apply Exists.intro (α := Int) | apply Exists.intro (α := Bool) | apply Exists.intro (α := ByteArray) | (apply Exists.intro (α := Option Addr); apply Exists.intro (α := Nat); apply Exists.intro (α := Nat)) | apply Exists.intro (α := Option Addr) | apply Exists.intro (α := Value)))
    refine ⟨rfl, ?_⟩
    exact take (by unfold isMate plE; simp [hid2.1, hid2.2, hh2]) h
theorem rpeer_ok (h : St c w L) {e : Re} {l : List Re} (hr : RdIn L A (l.flatMap re)) (hl : l.length ≤ 1000) {Q : Value → World → Prop}
    (hone : ∀ (p : Nat) x w', l[p]? = some x → matesR e l = [x] → St c w' L → Q (.int .i64 p) w') (hno : (matesR e l).length ≠ 1 → ∀ w', St c w' L → Q (.int .i64 (-1)) w') :
    CALL PG 6 [rev e, .slice A l.length k] w Q := by
  refine call6 ?_
  unfold N6
  refine h.box (vs := re e) fun p w' h => ?_
  refine ⟨fun m a x w => ∃ j : Nat, x = j ∧ m = l.length - j ∧ j ≤ l.length ∧ ((a = -1 ∧ matesR e (l.take j) = []) ∨ ∃ (i : Nat) (y : Re), a = i ∧ l[i]? = some y ∧ matesR e (l.take j) = [y]) ∧ St c w (blk p 38 (re e) :: L), ⟨_, 0, rfl, rfl, Nat.zero_le _, .inl ⟨rfl, rfl⟩, h⟩, ?_⟩
  clear h
  rintro m a x w' ⟨j, rfl, rfl, hj, hA, h⟩
  by_cases hjl : j < l.length
  rotate_left
  · obtain rfl : j = l.length := by omega
    rw [List.take_length] at hA
    refine ifdf (by omega) (leti rfl ?_)
    rcases hA with ⟨rfl, hz⟩ | ⟨i, y, rfl, hy, hz⟩
    · exact hno (by rw [hz]; simp) _ h.drop
    · exact hone i y _ hy hz h.drop
  obtain ⟨x, hx⟩ : ∃ x, l[j]? = some x := ⟨_, List.getElem?_eq_getElem hjl⟩
  have e3 : IntKind.i64.wrap ((j : Int) + 1) = ((j + 1 : Nat) : Int) := by rw [wrap_i64 (by omega) (by omega)]; rfl
  have etk : matesR e (l.take (j + 1)) = matesR e (l.take j) ++ (if isMate e x then [x] else []) := by
    rw [List.take_add_one, hx, matesR, List.filter_append]
    show _ ++ List.filter _ [x] = _
    rw [List.filter_cons]
    rfl
  refine ifdt (by omega) ?_
  have h := h.drew
  refine h.ix (z := 14) hr.more hx (fun b hb => ?_) (by omega)
  have hr1 := hr
  rw [hb] at hr1
  refine h.rdEGo 4 2 hr1.more hx ?_
  (repeat (first | apply Exists.intro (α := Int) | apply Exists.intro (α := Bool) | apply Exists.intro (α := ByteArray) | (apply Exists.intro (α := Option Addr); apply Exists.intro (α := Nat); apply Exists.intro (α := Nat)) | apply Exists.intro (α := Option Addr) | apply Exists.intro (α := Value)))
  refine ⟨rfl, ?_⟩
  refine h.rdGo (B := p) 4 2 ?_
  (repeat (first | apply Exists.intro (α := Int) | apply Exists.intro (α := Bool) | apply Exists.intro (α := ByteArray) | (apply Exists.intro (α := Option Addr); apply Exists.intro (α := Nat); apply Exists.intro (α := Nat)) | apply Exists.intro (α := Option Addr) | apply Exists.intro (α := Value)))
  refine ⟨rfl, ?_⟩
  refine RDB.neqN (x.idK0 == e.idK0 && (x.idK1 == e.idK1 && true)) ?_
  have skip : isMate e x = false → ∀ {w'}, St c w' (blk p 38 (re e) :: L) →
      ∃ m2, m2 < l.length - j ∧ ∃ j' : Nat, ((j + 1 : Nat) : Int) = j' ∧ m2 = l.length - j' ∧ j' ≤ l.length ∧ ((a = -1 ∧ matesR e (l.take j') = []) ∨ ∃ (i : Nat) (y : Re), a = i ∧ l[i]? = some y ∧ matesR e (l.take j') = [y]) ∧ St c w' (blk p 38 (re e) :: L) := fun hf {w'} h => by
    refine ⟨l.length - (j + 1), by omega, j + 1, rfl, rfl, by omega, ?_, h⟩
    rw [etk, hf]
    simpa using hA
  have two : isMate e x = true → ∀ {X : Prop}, (matesR e (l.take j) = [] → a = -1 → X) → ∀ {w'}, St c w' (blk p 38 (re e) :: L) → IFB (decide (a ≥ (0 : Int))) (Q (.int .i64 (-1 : Int)) w') X := fun hf {X} hX {w'} h => by
    rcases hA with ⟨rfl, hz⟩ | ⟨i, y, rfl, hy, hz⟩
    · exact ifdf (by decide) (hX hz rfl)
    · refine ifdt (by omega) (hno ?_ _ h.drop)
      have e1 : matesR e l = matesR e (l.take (j + 1)) ++ matesR e (l.drop (j + 1)) := by
        unfold matesR
        rw [← List.filter_append, List.take_append_drop]
      rw [e1, etk, hz, hf]
      simp
  have fin : isMate e x = true → ∀ {w'}, St c w' (blk p 38 (re e) :: L) → matesR e (l.take j) = [] → 
      ∃ m2, m2 < l.length - j ∧ ∃ j' : Nat, ((j + 1 : Nat) : Int) = j' ∧ m2 = l.length - j' ∧ j' ≤ l.length ∧ (((j : Int) = -1 ∧ matesR e (l.take j') = []) ∨ ∃ (i : Nat) (y : Re), (j : Int) = i ∧ l[i]? = some y ∧ matesR e (l.take j') = [y]) ∧ St c w' (blk p 38 (re e) :: L) := fun hf {w'} h hz => by
    refine ⟨l.length - (j + 1), by omega, j + 1, rfl, rfl, by omega, .inr ⟨j, x, rfl, hx, ?_⟩, h⟩
    rw [etk, hf, hz]
    rfl
  refine ifb (fun hid => leti e3 (skip (by unfold isMate; rcases (by simpa using hid : ¬x.idK0 = e.idK0 ∨ ¬x.idK1 = e.idK1) with q | q <;> simp [q]) h)) fun hid => ?_
  have hid2 : x.idK0 = e.idK0 ∧ x.idK1 = e.idK1 := by simpa using hid
  refine h.ix (z := 14) hr.more hx (fun b hb => ?_) (by omega)
  have hr1 := hr
  rw [hb] at hr1
  refine h.rdEI 0 hr1.more hx ?_
  refine h.rdI (B := p) 0 ?_
  have mt : x.host ≠ e.host ∨ x.handle ≠ e.handle → isMate e x = true := fun q => by unfold isMate; rcases q with q | q <;> simp [hid2.1, hid2.2, q]
  refine ifq (fun hh => ?_) fun hh => ?_
  rotate_left
  · refine two (mt (.inl hh)) (fun hz _ => ?_) h
    refine leti rfl (leti e3 ?_)
    exact fin (mt (.inl hh)) h hz
  refine h.ix (z := 14) hr.more hx (fun b hb => ?_) (by omega)
  have hr1 := hr
  rw [hb] at hr1
  refine h.rdEI 1 hr1.more hx ?_
  refine h.rdI (B := p) 1 ?_
  refine ifq (fun hh2 => leti e3 (skip (by unfold isMate; simp [hh, hh2]) h)) fun hh2 => ?_
  refine two (mt (.inr hh2)) (fun hz _ => ?_) h
  refine leti rfl (leti e3 ?_)
  exact fin (mt (.inr hh2)) h hz
end
end Go.Br
