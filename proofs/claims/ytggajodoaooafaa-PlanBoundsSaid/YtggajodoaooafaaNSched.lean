/- What the code of some functions says, as the core reads it; each reading is checked by the kernel. -/
import Derived.Test.YtggajodoaooafaaBrSeat
set_option linter.unusedVariables false
set_option maxRecDepth 100000
namespace Go.Br
open Go Go.Proofs

/-- brougham/sched.Order -/
def N43 (policy : Int) (last : Int) (n : Int) (l : Option Addr) (lN lC : Nat) (w : World) (Q : Value → World → Prop) : Prop :=
 RUNA PG (Instr.box 90 (.int .i64 policy)) w fun a4 w1 =>
 RUNA PG (Instr.box 3 (.int .i64 last)) w1 fun a5 w2 =>
 ∃ I : Nat → Option Addr → Nat → Nat → Int → World → Prop,
 (∃ m, I m none 0 0 (0 : Int) w2) ∧
 (∀ m1 (okv : Option Addr) (okN okC : Nat) (x17 : Int) (w3 : World), I m1 okv okN okC x17 w3 → (IFB (decide (x17 < (lN : Int)))
 (IDX l lN x17 fun a19 =>
 RD PG (loadVar 103 (Addr.add a19 (Int.toNat x17 * 7))) w3 fun v =>
 ∃ x20 : Int, ∃ x20v1 : Bool, ∃ x20v2 : Bool, ∃ x20v3 : Bool, ∃ x20v4 : Int, ∃ x20v5 : Int, ∃ x20v6 : Int, v = (.agg #[(.int .i64 x20), (.bool x20v1), (.bool x20v2), (.bool x20v3), (.int .i64 x20v4), (.int .i64 x20v5), (.int .i64 x20v6)]) ∧
 (RUNA PG (Instr.alloc 103 true (.tuple #[])) w3 fun a11 w4 =>
 RUNU PG (storeVar 103 a11 (.agg #[(.int .i64 x20), (.bool x20v1), (.bool x20v2), (.bool x20v3), (.int .i64 x20v4), (.int .i64 x20v5), (.int .i64 x20v6)])) w4 fun w5 =>
 RD PG (loadVar 103 a11) w5 fun v1 =>
 ∃ x21 : Int, ∃ x21v1 : Bool, ∃ x21v2 : Bool, ∃ x21v3 : Bool, ∃ x21v4 : Int, ∃ x21v5 : Int, ∃ x21v6 : Int, v1 = (.agg #[(.int .i64 x21), (.bool x21v1), (.bool x21v2), (.bool x21v3), (.int .i64 x21v4), (.int .i64 x21v5), (.int .i64 x21v6)]) ∧
 (CALL PG 87 [(.agg #[(.int .i64 x21), (.bool x21v1), (.bool x21v2), (.bool x21v3), (.int .i64 x21v4), (.int .i64 x21v5), (.int .i64 x21v6)]), (.int .i64 n)] w5 fun v2 w6 =>
 ∃ x23 : Bool, v2 = (.bool x23) ∧
 (IFB x23
 (RD PG (loadVar 103 a11) w6 fun v3 =>
 ∃ x25 : Int, ∃ x25v1 : Bool, ∃ x25v2 : Bool, ∃ x25v3 : Bool, ∃ x25v4 : Int, ∃ x25v5 : Int, ∃ x25v6 : Int, v3 = (.agg #[(.int .i64 x25), (.bool x25v1), (.bool x25v2), (.bool x25v3), (.int .i64 x25v4), (.int .i64 x25v5), (.int .i64 x25v6)]) ∧
 (RUNL PG (Instr.buildSlice 93 1 #[(0, (.agg #[(.int .i64 x25), (.bool x25v1), (.bool x25v2), (.bool x25v3), (.int .i64 x25v4), (.int .i64 x25v5), (.int .i64 x25v6)]))]) w6 fun x26 x26N x26C w7 =>
 RUNL PG (Builtin.append_ #[93, 93] 93 #[(.slice okv okN okC), (.slice x26 x26N x26C)]) w7 fun x27 x27N x27C w8 =>
 ∃ m2, m2 < m1 ∧ I m2 x27 x27N x27C (IntKind.i64.wrap (x17 + (1 : Int))) w8))
 (∃ m3, m3 < m1 ∧ I m3 okv okN okC (IntKind.i64.wrap (x17 + (1 : Int))) w6)))))
 (CALL PG 88 [(.slice okv okN okC), (.func (.func 89) #[] #[(.pointer (some a4)), (.pointer (some a5))])] w3 fun v4 w9 =>
 v4 = (.tuple #[]) ∧
 (∃ I1 : Nat → Option Addr → Nat → Nat → Int → World → Prop,
 (∃ m4, I1 m4 none 0 0 (0 : Int) w9) ∧
 (∀ m5 (out : Option Addr) (outN outC : Nat) (x34 : Int) (w10 : World), I1 m5 out outN outC x34 w10 → (IFB (decide (x34 < (okN : Int)))
 (IDX okv okN x34 fun a36 =>
 RD PG (loadVar 103 (Addr.add a36 (Int.toNat x34 * 7))) w10 fun v5 =>
 ∃ x37 : Int, ∃ x37v1 : Bool, ∃ x37v2 : Bool, ∃ x37v3 : Bool, ∃ x37v4 : Int, ∃ x37v5 : Int, ∃ x37v6 : Int, v5 = (.agg #[(.int .i64 x37), (.bool x37v1), (.bool x37v2), (.bool x37v3), (.int .i64 x37v4), (.int .i64 x37v5), (.int .i64 x37v6)]) ∧
 (RUNA PG (Instr.alloc 103 true (.tuple #[])) w10 fun a14 w11 =>
 RUNU PG (storeVar 103 a14 (.agg #[(.int .i64 x37), (.bool x37v1), (.bool x37v2), (.bool x37v3), (.int .i64 x37v4), (.int .i64 x37v5), (.int .i64 x37v6)])) w11 fun w12 =>
 RDI PG (loadVar 3 (Addr.add a14 0)) .i64 w12 fun x40 =>
 RUNL PG (Instr.buildSlice 95 1 #[(0, (.int .i64 x40))]) w12 fun x41 x41N x41C w13 =>
 RUNL PG (Builtin.append_ #[95, 95] 95 #[(.slice out outN outC), (.slice x41 x41N x41C)]) w13 fun x42 x42N x42C w14 =>
 ∃ m6, m6 < m5 ∧ I1 m6 x42 x42N x42C (IntKind.i64.wrap (x34 + (1 : Int))) w14))
 (Q (.slice out outN outC) w10)))))))
theorem eq43 : ∀ (policy : Int) (last : Int) (n : Int) (l : Option Addr) (lN lC : Nat) (w : World) (Q : Value → World → Prop), vcF PG TB Try.f43 (.s .nil (.s .nil (.s (.s .nil (.u (.loop [(9, 93), (17, 3)] .nil))) (.s .nil (.s .nil (.s (.s .nil (.u (.loop [(12, 95), (34, 3)] .nil))) .nil)))))) [(.int .i64 policy), (.int .i64 last), (.int .i64 n), (.slice l lN lC)] w Q = N43 policy last n l lN lC w Q := by intros; kernel_rfl
theorem call43 {policy : Int} {last : Int} {n : Int} {l : Option Addr} {lN lC : Nat} {w : World} {Q : Value → World → Prop} (hN : N43 policy last n l lN lC w Q) : CALL PG 43 [(.int .i64 policy), (.int .i64 last), (.int .i64 n), (.slice l lN lC)] w Q := calls_vc tabOk Try.func43 (by rw [eq43]; exact hN)

/-- (brougham/sched.Path).fits -/
def N87 (p : Int) (p1 : Bool) (p2 : Bool) (p3 : Bool) (p4 : Int) (p5 : Int) (p6 : Int) (n : Int) (w : World) (Q : Value → World → Prop) : Prop :=
 RUNA PG (Instr.box 103 (.agg #[(.int .i64 p), (.bool p1), (.bool p2), (.bool p3), (.int .i64 p4), (.int .i64 p5), (.int .i64 p6)])) w fun a2 w1 =>
 RDB PG (loadVar 4 (Addr.add a2 1)) w1 fun x6 =>
 IFB x6
 (RDI PG (loadVar 3 (Addr.add a2 4)) .i64 w1 fun x9 =>
 IFB (decide (x9 ≥ n))
 (LETB true fun x4 =>
 Q (.bool x4) w1)
 (RDI PG (loadVar 3 (Addr.add a2 5)) .i64 w1 fun x14 =>
 LETB (x14 == (0 : Int)) fun x4v1 =>
 Q (.bool x4v1) w1))
 (LETB false fun x4v2 =>
 Q (.bool x4v2) w1)
theorem eq87 : ∀ (p : Int) (p1 : Bool) (p2 : Bool) (p3 : Bool) (p4 : Int) (p5 : Int) (p6 : Int) (n : Int) (w : World) (Q : Value → World → Prop), vcF PG TB Try.f87 .nil [(.agg #[(.int .i64 p), (.bool p1), (.bool p2), (.bool p3), (.int .i64 p4), (.int .i64 p5), (.int .i64 p6)]), (.int .i64 n)] w Q = N87 p p1 p2 p3 p4 p5 p6 n w Q := by intros; kernel_rfl
theorem call87 {p : Int} {p1 : Bool} {p2 : Bool} {p3 : Bool} {p4 : Int} {p5 : Int} {p6 : Int} {n : Int} {w : World} {Q : Value → World → Prop} (hN : N87 p p1 p2 p3 p4 p5 p6 n w Q) : CALL PG 87 [(.agg #[(.int .i64 p), (.bool p1), (.bool p2), (.bool p3), (.int .i64 p4), (.int .i64 p5), (.int .i64 p6)]), (.int .i64 n)] w Q := calls_vc tabOk Try.func87 (by rw [eq87]; exact hN)

/-- brougham/sched.Order$1 -/
def N89 (a : Int) (a1 : Bool) (a2 : Bool) (a3 : Bool) (a4 : Int) (a5 : Int) (a6 : Int) (b : Int) (b1 : Bool) (b2 : Bool) (b3 : Bool) (b4 : Int) (b5 : Int) (b6 : Int) (x2 : Addr) (x3 : Addr) (w : World) (Q : Value → World → Prop) : Prop :=
 RUNA PG (Instr.box 103 (.agg #[(.int .i64 a), (.bool a1), (.bool a2), (.bool a3), (.int .i64 a4), (.int .i64 a5), (.int .i64 a6)])) w fun a4v1 w1 =>
 RUNA PG (Instr.box 103 (.agg #[(.int .i64 b), (.bool b1), (.bool b2), (.bool b3), (.int .i64 b4), (.int .i64 b5), (.int .i64 b6)])) w1 fun a5v1 w2 =>
 ∃ S : World → Prop, S (w2.drew) ∧
 (RDS PG (loadVar 103 a4v1) S fun v =>
 ∃ x8 : Int, ∃ x8v1 : Bool, ∃ x8v2 : Bool, ∃ x8v3 : Bool, ∃ x8v4 : Int, ∃ x8v5 : Int, ∃ x8v6 : Int, v = (.agg #[(.int .i64 x8), (.bool x8v1), (.bool x8v2), (.bool x8v3), (.int .i64 x8v4), (.int .i64 x8v5), (.int .i64 x8v6)]) ∧
 (RDS PG (loadVar 103 a5v1) S fun v1 =>
 ∃ x10 : Int, ∃ x10v1 : Bool, ∃ x10v2 : Bool, ∃ x10v3 : Bool, ∃ x10v4 : Int, ∃ x10v5 : Int, ∃ x10v6 : Int, v1 = (.agg #[(.int .i64 x10), (.bool x10v1), (.bool x10v2), (.bool x10v3), (.int .i64 x10v4), (.int .i64 x10v5), (.int .i64 x10v6)]) ∧
 (CALL PG 91 [(.agg #[(.int .i64 x8), (.bool x8v1), (.bool x8v2), (.bool x8v3), (.int .i64 x8v4), (.int .i64 x8v5), (.int .i64 x8v6)])] (w2.drew) fun v2 w3 =>
 ∃ x9 : Int, v2 = (.int .i64 x9) ∧
 (∃ S1 : World → Prop, (∀ x, S1 x → S x) ∧ S1 w3 ∧
 (CALL PG 91 [(.agg #[(.int .i64 x10), (.bool x10v1), (.bool x10v2), (.bool x10v3), (.int .i64 x10v4), (.int .i64 x10v5), (.int .i64 x10v6)])] w3 fun v3 w4 =>
 ∃ x11 : Int, v3 = (.int .i64 x11) ∧
 (CALL PG 90 [(.int .i64 x9), (.int .i64 x11)] w4 fun v4 w5 =>
 ∃ x12 : Int, v4 = (.int .i64 x12) ∧
 (LETI x12 fun c =>
 IFB (c != (0 : Int))
 (LETI c fun x6 =>
 Q (.int .i64 x6) w5)
 (RDI PG (loadVar 90 x2) .i64 w5 fun x16 =>
 IFB (x16 == (2 : Int))
 (∃ S2 : World → Prop, S2 (w5.drew) ∧
 (RDSI PG (loadVar 3 (Addr.add a4v1 0)) .i64 S2 fun x19 =>
 RDSI PG (loadVar 3 x3) .i64 S2 fun x20 =>
 RDSI PG (loadVar 3 (Addr.add a5v1 0)) .i64 S2 fun x23 =>
 RDSI PG (loadVar 3 x3) .i64 S2 fun x24 =>
 RDSI PG (loadVar 3 (Addr.add a4v1 0)) .i64 S2 fun x28 =>
 RDSI PG (loadVar 3 (Addr.add a5v1 0)) .i64 S2 fun x30 =>
 CALL PG 93 [(.int .i64 x19), (.int .i64 x20)] (w5.drew) fun v5 w6 =>
 ∃ x21 : Int, v5 = (.int .i64 x21) ∧
 (∃ S3 : World → Prop, (∀ x, S3 x → S2 x) ∧ S3 w6 ∧
 (CALL PG 93 [(.int .i64 x23), (.int .i64 x24)] w6 fun v6 w7 =>
 ∃ x25 : Int, v6 = (.int .i64 x25) ∧
 (∃ S4 : World → Prop, (∀ x, S4 x → S3 x) ∧ S4 w7 ∧
 (CALL PG 90 [(.int .i64 x21), (.int .i64 x25)] w7 fun v7 w8 =>
 ∃ x26 : Int, v7 = (.int .i64 x26) ∧
 (∃ S5 : World → Prop, (∀ x, S5 x → S4 x) ∧ S5 w8 ∧
 (CALL PG 90 [(.int .i64 x28), (.int .i64 x30)] w8 fun v8 w9 =>
 ∃ x31 : Int, v8 = (.int .i64 x31) ∧
 (RUNL PG (Instr.buildSlice 95 2 #[(0, (.int .i64 x26)), (1, (.int .i64 x31))]) w9 fun x32 x32N x32C w10 =>
 CALL PG 92 [(.slice x32 x32N x32C)] w10 fun v9 w11 =>
 ∃ x33 : Int, v9 = (.int .i64 x33) ∧
 (LETI x33 fun x6v1 =>
 Q (.int .i64 x6v1) w11))))))))))
 (∃ S6 : World → Prop, S6 (w5.drew) ∧
 (RDSI PG (loadVar 3 (Addr.add a4v1 6)) .i64 S6 fun x35 =>
 RDSI PG (loadVar 3 (Addr.add a5v1 6)) .i64 S6 fun x37 =>
 RDSI PG (loadVar 3 (Addr.add a4v1 0)) .i64 S6 fun x40 =>
 RDSI PG (loadVar 3 (Addr.add a5v1 0)) .i64 S6 fun x42 =>
 CALL PG 90 [(.int .i64 x35), (.int .i64 x37)] (w5.drew) fun v10 w12 =>
 ∃ x38 : Int, v10 = (.int .i64 x38) ∧
 (∃ S7 : World → Prop, (∀ x, S7 x → S6 x) ∧ S7 w12 ∧
 (CALL PG 90 [(.int .i64 x40), (.int .i64 x42)] w12 fun v11 w13 =>
 ∃ x43 : Int, v11 = (.int .i64 x43) ∧
 (RUNL PG (Instr.buildSlice 95 2 #[(0, (.int .i64 x38)), (1, (.int .i64 x43))]) w13 fun x44 x44N x44C w14 =>
 CALL PG 92 [(.slice x44 x44N x44C)] w14 fun v12 w15 =>
 ∃ x45 : Int, v12 = (.int .i64 x45) ∧
 (LETI x45 fun x6v2 =>
 Q (.int .i64 x6v2) w15))))))))))))))
theorem eq89 : ∀ (a : Int) (a1 : Bool) (a2 : Bool) (a3 : Bool) (a4 : Int) (a5 : Int) (a6 : Int) (b : Int) (b1 : Bool) (b2 : Bool) (b3 : Bool) (b4 : Int) (b5 : Int) (b6 : Int) (x2 : Addr) (x3 : Addr) (w : World) (Q : Value → World → Prop), vcF PG TB Try.f89 .nil [(.agg #[(.int .i64 a), (.bool a1), (.bool a2), (.bool a3), (.int .i64 a4), (.int .i64 a5), (.int .i64 a6)]), (.agg #[(.int .i64 b), (.bool b1), (.bool b2), (.bool b3), (.int .i64 b4), (.int .i64 b5), (.int .i64 b6)]), (.pointer (some x2)), (.pointer (some x3))] w Q = N89 a a1 a2 a3 a4 a5 a6 b b1 b2 b3 b4 b5 b6 x2 x3 w Q := by intros; kernel_rfl
theorem call89 {a : Int} {a1 : Bool} {a2 : Bool} {a3 : Bool} {a4 : Int} {a5 : Int} {a6 : Int} {b : Int} {b1 : Bool} {b2 : Bool} {b3 : Bool} {b4 : Int} {b5 : Int} {b6 : Int} {x2 : Addr} {x3 : Addr} {w : World} {Q : Value → World → Prop} (hN : N89 a a1 a2 a3 a4 a5 a6 b b1 b2 b3 b4 b5 b6 x2 x3 w Q) : CALL PG 89 [(.agg #[(.int .i64 a), (.bool a1), (.bool a2), (.bool a3), (.int .i64 a4), (.int .i64 a5), (.int .i64 a6)]), (.agg #[(.int .i64 b), (.bool b1), (.bool b2), (.bool b3), (.int .i64 b4), (.int .i64 b5), (.int .i64 b6)]), (.pointer (some x2)), (.pointer (some x3))] w Q := calls_vc tabOk Try.func89 (by rw [eq89]; exact hN)

/-- cmp.Compare[int] -/
def N90 (x : Int) (y : Int) (w : World) (Q : Value → World → Prop) : Prop :=
 CALL PG 123 [(.int .i64 x)] w fun v w1 =>
 ∃ x8 : Bool, v = (.bool x8) ∧
 (LETB x8 fun xNaN =>
 CALL PG 123 [(.int .i64 y)] w1 fun v1 w2 =>
 ∃ x10 : Bool, v1 = (.bool x10) ∧
 (LETB x10 fun yNaN =>
 IFB xNaN
 (IFB yNaN
 (Q (.int .i64 (0 : Int)) w2)
 (Q (.int .i64 (-1 : Int)) w2))
 (IFB yNaN
 (Q (.int .i64 (1 : Int)) w2)
 (IFB (decide (x < y))
 (Q (.int .i64 (-1 : Int)) w2)
 (IFB (decide (x > y))
 (Q (.int .i64 (1 : Int)) w2)
 (Q (.int .i64 (0 : Int)) w2))))))
theorem eq90 : ∀ (x : Int) (y : Int) (w : World) (Q : Value → World → Prop), vcF PG TB Try.f90 .nil [(.int .i64 x), (.int .i64 y)] w Q = N90 x y w Q := by intros; kernel_rfl
theorem call90 {x : Int} {y : Int} {w : World} {Q : Value → World → Prop} (hN : N90 x y w Q) : CALL PG 90 [(.int .i64 x), (.int .i64 y)] w Q := calls_vc tabOk Try.func90 (by rw [eq90]; exact hN)

/-- (brougham/sched.Path).rank -/
def N91 (p : Int) (p1 : Bool) (p2 : Bool) (p3 : Bool) (p4 : Int) (p5 : Int) (p6 : Int) (w : World) (Q : Value → World → Prop) : Prop :=
 RUNA PG (Instr.box 103 (.agg #[(.int .i64 p), (.bool p1), (.bool p2), (.bool p3), (.int .i64 p4), (.int .i64 p5), (.int .i64 p6)])) w fun a1 w1 =>
 RDB PG (loadVar 4 (Addr.add a1 2)) w1 fun x5 =>
 IFB x5
 (LETI (IntKind.i64.wrap ((0 : Int) + (1 : Int))) fun n =>
 RDB PG (loadVar 4 (Addr.add a1 3)) w1 fun x9 =>
 IFB x9
 (LETI (IntKind.i64.wrap (n + (2 : Int))) fun n1 =>
 LETI n1 fun x2 =>
 Q (.int .i64 x2) w1)
 (LETI n fun x2v1 =>
 Q (.int .i64 x2v1) w1))
 (RDB PG (loadVar 4 (Addr.add a1 3)) w1 fun x9v1 =>
 IFB x9v1
 (LETI (IntKind.i64.wrap ((0 : Int) + (2 : Int))) fun n2 =>
 LETI n2 fun x2v2 =>
 Q (.int .i64 x2v2) w1)
 (LETI (0 : Int) fun x2v3 =>
 Q (.int .i64 x2v3) w1))
theorem eq91 : ∀ (p : Int) (p1 : Bool) (p2 : Bool) (p3 : Bool) (p4 : Int) (p5 : Int) (p6 : Int) (w : World) (Q : Value → World → Prop), vcF PG TB Try.f91 .nil [(.agg #[(.int .i64 p), (.bool p1), (.bool p2), (.bool p3), (.int .i64 p4), (.int .i64 p5), (.int .i64 p6)])] w Q = N91 p p1 p2 p3 p4 p5 p6 w Q := by intros; kernel_rfl
theorem call91 {p : Int} {p1 : Bool} {p2 : Bool} {p3 : Bool} {p4 : Int} {p5 : Int} {p6 : Int} {w : World} {Q : Value → World → Prop} (hN : N91 p p1 p2 p3 p4 p5 p6 w Q) : CALL PG 91 [(.agg #[(.int .i64 p), (.bool p1), (.bool p2), (.bool p3), (.int .i64 p4), (.int .i64 p5), (.int .i64 p6)])] w Q := calls_vc tabOk Try.func91 (by rw [eq91]; exact hN)

/-- cmp.Or[int] -/
def N92 (vals : Option Addr) (valsN valsC : Nat) (w : World) (Q : Value → World → Prop) : Prop :=
 ∃ I : Nat → Int → World → Prop,
 (∃ m, I m (0 : Int) w) ∧
 (∀ m1 (x8 : Int) (w1 : World), I m1 x8 w1 → (IFB (decide (x8 < (valsN : Int)))
 (IDX vals valsN x8 fun a10 =>
 RDI PG (loadVar 3 (Addr.add a10 (Int.toNat x8 * 1))) .i64 w1 fun x11 =>
 LETI x11 fun val =>
 IFB (val != (0 : Int))
 (LETI val fun x2 =>
 Q (.int .i64 x2) w1)
 (∃ m2, m2 < m1 ∧ I m2 (IntKind.i64.wrap (x8 + (1 : Int))) w1))
 (LETI (0 : Int) fun x2v1 =>
 Q (.int .i64 x2v1) w1)))
theorem eq92 : ∀ (vals : Option Addr) (valsN valsC : Nat) (w : World) (Q : Value → World → Prop), vcF PG TB Try.f92 (.s .nil (.s .nil (.s (.s .nil (.u (.loop [(8, 3)] .nil))) .nil))) [(.slice vals valsN valsC)] w Q = N92 vals valsN valsC w Q := by intros; kernel_rfl
theorem call92 {vals : Option Addr} {valsN valsC : Nat} {w : World} {Q : Value → World → Prop} (hN : N92 vals valsN valsC w Q) : CALL PG 92 [(.slice vals valsN valsC)] w Q := calls_vc tabOk Try.func92 (by rw [eq92]; exact hN)

/-- brougham/sched.turn -/
def N93 (id : Int) (last : Int) (w : World) (Q : Value → World → Prop) : Prop :=
 IFB (decide (id > last))
 (Q (.int .i64 (0 : Int)) w)
 (Q (.int .i64 (1 : Int)) w)
theorem eq93 : ∀ (id : Int) (last : Int) (w : World) (Q : Value → World → Prop), vcF PG TB Try.f93 .nil [(.int .i64 id), (.int .i64 last)] w Q = N93 id last w Q := by intros; kernel_rfl
theorem call93 {id : Int} {last : Int} {w : World} {Q : Value → World → Prop} (hN : N93 id last w Q) : CALL PG 93 [(.int .i64 id), (.int .i64 last)] w Q := calls_vc tabOk Try.func93 (by rw [eq93]; exact hN)

/-- cmp.isNaN[int] -/
def N123 (x : Int) (w : World) (Q : Value → World → Prop) : Prop :=
 LETB (x != x) fun x2 =>
 Q (.bool x2) w
theorem eq123 : ∀ (x : Int) (w : World) (Q : Value → World → Prop), vcF PG TB Try.f123 .nil [(.int .i64 x)] w Q = N123 x w Q := by intros; kernel_rfl
theorem call123 {x : Int} {w : World} {Q : Value → World → Prop} (hN : N123 x w Q) : CALL PG 123 [(.int .i64 x)] w Q := calls_vc tabOk Try.func123 (by rw [eq123]; exact hN)

end Go.Br
