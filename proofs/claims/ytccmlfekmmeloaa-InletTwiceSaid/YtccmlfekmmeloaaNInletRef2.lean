/- What the code of some functions says, as the core reads it; each reading is checked by the kernel. -/
import Derived.Test.YtccmlfekmmeloaaBrSeat
set_option linter.unusedVariables false
set_option maxRecDepth 100000
namespace Go.Br
open Go Go.Proofs

/-- brougham/broughamref18.Take -/
def N93 (x : Int) (x1 : Option Addr) (xN xC : Nat) (x2 : Option Addr) (xN1 xC1 : Nat) (x3 : Int) (x4 : Int) (x5 : Bool) (many : Int) (w : World) (Q : Value → World → Prop) : Prop :=
 RUNA PG (Instr.box 78 (.agg #[(.int .u64 x), (.slice x1 xN xC), (.slice x2 xN1 xC1), (.int .i64 x3), (.int .u64 x4), (.bool x5)])) w fun a2 w1 =>
 RUNA PG (Instr.alloc 78 true (.tuple #[])) w1 fun a4 w2 =>
 IFB (decide (many < (1 : Int)))
 (RD PG (loadVar 78 a2) w2 fun v =>
 ∃ x11 : Int, ∃ (x11v1 : Option Addr) (x11N x11C : Nat), ∃ (x11v2 : Option Addr) (x11N1 x11C1 : Nat), ∃ x11v3 : Int, ∃ x11v4 : Int, ∃ x11v5 : Bool, v = (.agg #[(.int .u64 x11), (.slice x11v1 x11N x11C), (.slice x11v2 x11N1 x11C1), (.int .i64 x11v3), (.int .u64 x11v4), (.bool x11v5)]) ∧
 (RUNU PG (storeVar 78 a4 (.agg #[(.int .u64 x11), (.slice x11v1 x11N x11C), (.slice x11v2 x11N1 x11C1), (.int .i64 x11v3), (.int .u64 x11v4), (.bool x11v5)])) w2 fun w3 =>
 RD PG (loadVar 78 a4) w3 fun v2 =>
 ∃ r : Int, ∃ (r1 : Option Addr) (rN rC : Nat), ∃ (r2 : Option Addr) (rN1 rC1 : Nat), ∃ r3 : Int, ∃ r4 : Int, ∃ r5 : Bool, v2 = (.agg #[(.int .u64 r), (.slice r1 rN rC), (.slice r2 rN1 rC1), (.int .i64 r3), (.int .u64 r4), (.bool r5)]) ∧
 (Q (.tuple #[(.agg #[(.int .u64 r), (.slice r1 rN rC), (.slice r2 rN1 rC1), (.int .i64 r3), (.int .u64 r4), (.bool r5)]), (.slice none 0 0), (.int .i64 (0 : Int))]) w3)))
 (∃ R : Option Addr → Nat → Nat → World → Prop,
 (∃ I : Nat → Option Addr → Nat → Nat → World → Prop,
 (∃ m, I m none 0 0 w2) ∧
 (∀ m1 (out : Option Addr) (outN outC : Nat) (w4 : World), I m1 out outN outC w4 → (∃ S : World → Prop, S (w4.drew) ∧
 (RDS PG (loadVar 78 a2) S fun v3 =>
 ∃ x15 : Int, ∃ (x15v1 : Option Addr) (x15N x15C : Nat), ∃ (x15v2 : Option Addr) (x15N1 x15C1 : Nat), ∃ x15v3 : Int, ∃ x15v4 : Int, ∃ x15v5 : Bool, v3 = (.agg #[(.int .u64 x15), (.slice x15v1 x15N x15C), (.slice x15v2 x15N1 x15C1), (.int .i64 x15v3), (.int .u64 x15v4), (.bool x15v5)]) ∧
 (RDSI PG (loadVar 42 (Addr.add a2 0)) .u64 S fun x18 =>
 CALL PG 125 [(.agg #[(.int .u64 x15), (.slice x15v1 x15N x15C), (.slice x15v2 x15N1 x15C1), (.int .i64 x15v3), (.int .u64 x15v4), (.bool x15v5)])] (w4.drew) fun v4 w5 =>
 ∃ x16 : Int, v4 = (.int .u64 x16) ∧
 (∃ S1 : World → Prop, (∀ x, S1 x → S x) ∧ S1 w5 ∧
 (IFB (decide ((IntKind.u64.wrap (outN : Int)) < (IntKind.u64.wrap (x16 - x18))))
 (IFB (decide ((outN : Int) < many))
 (RDL PG (loadVar 58 (Addr.add a2 2)) w5 fun x29 x29N x29C =>
 IDX x29 x29N (outN : Int) fun a32 =>
 RDI PG (loadVar 5 (Addr.add a32 (Int.toNat (outN : Int) * 1))) .u8 w5 fun x33 =>
 RUNL PG (Instr.buildSlice 58 1 #[(0, (.int .u8 x33))]) w5 fun x34 x34N x34C w6 =>
 RUNL PG (Builtin.append_ #[58, 58] 58 #[(.slice out outN outC), (.slice x34 x34N x34C)]) w6 fun x35 x35N x35C w7 =>
 ∃ m2, m2 < m1 ∧ I m2 x35 x35N x35C w7)
 (R out outN outC w5))
 (R out outN outC w5)))))))) ∧
 (∀ (out1 : Option Addr) (outN1 outC1 : Nat) (w8 : World), R out1 outN1 outC1 w8 → (∃ R1 : World → Prop,
 (IFB ((outN1 : Int) == (0 : Int))
 (RD PG (loadVar 78 a2) w8 fun v5 =>
 ∃ x40 : Int, ∃ (x40v1 : Option Addr) (x40N x40C : Nat), ∃ (x40v2 : Option Addr) (x40N1 x40C1 : Nat), ∃ x40v3 : Int, ∃ x40v4 : Int, ∃ x40v5 : Bool, v5 = (.agg #[(.int .u64 x40), (.slice x40v1 x40N x40C), (.slice x40v2 x40N1 x40C1), (.int .i64 x40v3), (.int .u64 x40v4), (.bool x40v5)]) ∧
 (CALL PG 126 [(.agg #[(.int .u64 x40), (.slice x40v1 x40N x40C), (.slice x40v2 x40N1 x40C1), (.int .i64 x40v3), (.int .u64 x40v4), (.bool x40v5)])] w8 fun v6 w9 =>
 ∃ x41 : Bool, v6 = (.bool x41) ∧
 (IFB x41
 (RD PG (loadVar 78 a2) w9 fun v7 =>
 ∃ x43 : Int, ∃ (x43v1 : Option Addr) (x43N x43C : Nat), ∃ (x43v2 : Option Addr) (x43N1 x43C1 : Nat), ∃ x43v3 : Int, ∃ x43v4 : Int, ∃ x43v5 : Bool, v7 = (.agg #[(.int .u64 x43), (.slice x43v1 x43N x43C), (.slice x43v2 x43N1 x43C1), (.int .i64 x43v3), (.int .u64 x43v4), (.bool x43v5)]) ∧
 (RUNU PG (storeVar 78 a4 (.agg #[(.int .u64 x43), (.slice x43v1 x43N x43C), (.slice x43v2 x43N1 x43C1), (.int .i64 x43v3), (.int .u64 x43v4), (.bool x43v5)])) w9 fun w10 =>
 RD PG (loadVar 78 a4) w10 fun v9 =>
 ∃ r6 : Int, ∃ (r7 : Option Addr) (rN2 rC2 : Nat), ∃ (r8 : Option Addr) (rN3 rC3 : Nat), ∃ r9 : Int, ∃ r10 : Int, ∃ r11 : Bool, v9 = (.agg #[(.int .u64 r6), (.slice r7 rN2 rC2), (.slice r8 rN3 rC3), (.int .i64 r9), (.int .u64 r10), (.bool r11)]) ∧
 (Q (.tuple #[(.agg #[(.int .u64 r6), (.slice r7 rN2 rC2), (.slice r8 rN3 rC3), (.int .i64 r9), (.int .u64 r10), (.bool r11)]), (.slice none 0 0), (.int .i64 (211 : Int))]) w10)))
 (R1 w9))))
 (R1 w8)) ∧
 (∀  (w11 : World), R1 w11 → (IFB ((outN1 : Int) == (0 : Int))
 (RD PG (loadVar 78 a2) w11 fun v10 =>
 ∃ x47 : Int, ∃ (x47v1 : Option Addr) (x47N x47C : Nat), ∃ (x47v2 : Option Addr) (x47N1 x47C1 : Nat), ∃ x47v3 : Int, ∃ x47v4 : Int, ∃ x47v5 : Bool, v10 = (.agg #[(.int .u64 x47), (.slice x47v1 x47N x47C), (.slice x47v2 x47N1 x47C1), (.int .i64 x47v3), (.int .u64 x47v4), (.bool x47v5)]) ∧
 (RUNU PG (storeVar 78 a4 (.agg #[(.int .u64 x47), (.slice x47v1 x47N x47C), (.slice x47v2 x47N1 x47C1), (.int .i64 x47v3), (.int .u64 x47v4), (.bool x47v5)])) w11 fun w12 =>
 RD PG (loadVar 78 a4) w12 fun v12 =>
 ∃ r12 : Int, ∃ (r13 : Option Addr) (rN4 rC4 : Nat), ∃ (r14 : Option Addr) (rN5 rC5 : Nat), ∃ r15 : Int, ∃ r16 : Int, ∃ r17 : Bool, v12 = (.agg #[(.int .u64 r12), (.slice r13 rN4 rC4), (.slice r14 rN5 rC5), (.int .i64 r15), (.int .u64 r16), (.bool r17)]) ∧
 (Q (.tuple #[(.agg #[(.int .u64 r12), (.slice r13 rN4 rC4), (.slice r14 rN5 rC5), (.int .i64 r15), (.int .u64 r16), (.bool r17)]), (.slice none 0 0), (.int .i64 (210 : Int))]) w12)))
 (LETI (outN1 : Int) fun n =>
 RUNL PG (Instr.buildSlice 76 0 #[]) w11 fun x50 x50N x50C w13 =>
 RDL PG (loadVar 76 (Addr.add a2 1)) w13 fun x52 x52N x52C =>
 NEED (0 ≤ n ∧ n ≤ ((x52N : Nat) : Int) ∧ ((x52N : Nat) : Int) ≤ ((x52C : Nat) : Int))
 (RUNL PG (Builtin.append_ #[76, 76] 76 #[(.slice x50 x50N x50C), (.slice (cutA x52 x52C 1 n) (Int.toNat ((x52N : Nat) : Int) - Int.toNat n) (x52C - Int.toNat n))]) w13 fun x55 x55N x55C w14 =>
 RUNL PG (Builtin.append_ #[76, 3] 76 #[(.slice x55 x55N x55C), (.int .i64 n)]) w14 fun x57 x57N x57C w15 =>
 RUNU PG (storeVar 76 (Addr.add a2 1) (.slice x57 x57N x57C)) w15 fun w16 =>
 RUNL PG (Instr.buildSlice 58 0 #[]) w16 fun x59 x59N x59C w17 =>
 RDL PG (loadVar 58 (Addr.add a2 2)) w17 fun x61 x61N x61C =>
 NEED (0 ≤ n ∧ n ≤ ((x61N : Nat) : Int) ∧ ((x61N : Nat) : Int) ≤ ((x61C : Nat) : Int))
 (RUNL PG (Builtin.append_ #[58, 58] 58 #[(.slice x59 x59N x59C), (.slice (cutA x61 x61C 1 n) (Int.toNat ((x61N : Nat) : Int) - Int.toNat n) (x61C - Int.toNat n))]) w17 fun x64 x64N x64C w18 =>
 RUNL PG (Builtin.append_ #[58, 3] 58 #[(.slice x64 x64N x64C), (.int .i64 n)]) w18 fun x66 x66N x66C w19 =>
 RUNU PG (storeVar 58 (Addr.add a2 2) (.slice x66 x66N x66C)) w19 fun w20 =>
 RDI PG (loadVar 42 (Addr.add a2 0)) .u64 w20 fun x69 =>
 RUNU PG (storeVar 42 (Addr.add a2 0) (.int .u64 (IntKind.u64.wrap (x69 + (IntKind.u64.wrap n))))) w20 fun w21 =>
 RD PG (loadVar 78 a2) w21 fun v13 =>
 ∃ x74 : Int, ∃ (x74v1 : Option Addr) (x74N x74C : Nat), ∃ (x74v2 : Option Addr) (x74N1 x74C1 : Nat), ∃ x74v3 : Int, ∃ x74v4 : Int, ∃ x74v5 : Bool, v13 = (.agg #[(.int .u64 x74), (.slice x74v1 x74N x74C), (.slice x74v2 x74N1 x74C1), (.int .i64 x74v3), (.int .u64 x74v4), (.bool x74v5)]) ∧
 (RUNU PG (storeVar 78 a4 (.agg #[(.int .u64 x74), (.slice x74v1 x74N x74C), (.slice x74v2 x74N1 x74C1), (.int .i64 x74v3), (.int .u64 x74v4), (.bool x74v5)])) w21 fun w22 =>
 RD PG (loadVar 78 a4) w22 fun v15 =>
 ∃ r18 : Int, ∃ (r19 : Option Addr) (rN6 rC6 : Nat), ∃ (r20 : Option Addr) (rN7 rC7 : Nat), ∃ r21 : Int, ∃ r22 : Int, ∃ r23 : Bool, v15 = (.agg #[(.int .u64 r18), (.slice r19 rN6 rC6), (.slice r20 rN7 rC7), (.int .i64 r21), (.int .u64 r22), (.bool r23)]) ∧
 (Q (.tuple #[(.agg #[(.int .u64 r18), (.slice r19 rN6 rC6), (.slice r20 rN7 rC7), (.int .i64 r21), (.int .u64 r22), (.bool r23)]), (.slice out1 outN1 outC1), (.int .i64 (0 : Int))]) w22))))))))))
theorem eq93 : ∀ (x : Int) (x1 : Option Addr) (xN xC : Nat) (x2 : Option Addr) (xN1 xC1 : Nat) (x3 : Int) (x4 : Int) (x5 : Bool) (many : Int) (w : World) (Q : Value → World → Prop), vcF PG TB Try.f93 (.s .nil (.s .nil (.s .nil (.cut [(7, 58)] (.u (.loop [(7, 58)] .nil)) (.cut [] .nil .nil))))) [(.agg #[(.int .u64 x), (.slice x1 xN xC), (.slice x2 xN1 xC1), (.int .i64 x3), (.int .u64 x4), (.bool x5)]), (.int .i64 many)] w Q = N93 x x1 xN xC x2 xN1 xC1 x3 x4 x5 many w Q := by intros; kernel_rfl
theorem call93 {x : Int} {x1 : Option Addr} {xN xC : Nat} {x2 : Option Addr} {xN1 xC1 : Nat} {x3 : Int} {x4 : Int} {x5 : Bool} {many : Int} {w : World} {Q : Value → World → Prop} (hN : N93 x x1 xN xC x2 xN1 xC1 x3 x4 x5 many w Q) : CALL PG 93 [(.agg #[(.int .u64 x), (.slice x1 xN xC), (.slice x2 xN1 xC1), (.int .i64 x3), (.int .u64 x4), (.bool x5)]), (.int .i64 many)] w Q := calls_vc tabOk Try.func93 (by rw [eq93]; exact hN)

/-- brougham/broughamref18.Put -/
def N94 (x : Int) (x1 : Option Addr) (xN xC : Nat) (x2 : Option Addr) (xN1 xC1 : Nat) (x3 : Int) (x4 : Int) (x5 : Bool) (fromv : Int) (b : Option Addr) (bN bC : Nat) (w : World) (Q : Value → World → Prop) : Prop :=
 RUNA PG (Instr.box 78 (.agg #[(.int .u64 x), (.slice x1 xN xC), (.slice x2 xN1 xC1), (.int .i64 x3), (.int .u64 x4), (.bool x5)])) w fun a3 w1 =>
 RUNA PG (Instr.alloc 78 true (.tuple #[])) w1 fun a6 w2 =>
 IFB (decide ((IntKind.u64.wrap (fromv + (IntKind.u64.wrap (bN : Int)))) < fromv))
 (RD PG (loadVar 78 a3) w2 fun v =>
 ∃ x27 : Int, ∃ (x27v1 : Option Addr) (x27N x27C : Nat), ∃ (x27v2 : Option Addr) (x27N1 x27C1 : Nat), ∃ x27v3 : Int, ∃ x27v4 : Int, ∃ x27v5 : Bool, v = (.agg #[(.int .u64 x27), (.slice x27v1 x27N x27C), (.slice x27v2 x27N1 x27C1), (.int .i64 x27v3), (.int .u64 x27v4), (.bool x27v5)]) ∧
 (RUNU PG (storeVar 78 a6 (.agg #[(.int .u64 x27), (.slice x27v1 x27N x27C), (.slice x27v2 x27N1 x27C1), (.int .i64 x27v3), (.int .u64 x27v4), (.bool x27v5)])) w2 fun w3 =>
 RD PG (loadVar 78 a6) w3 fun v2 =>
 ∃ r : Int, ∃ (r1 : Option Addr) (rN rC : Nat), ∃ (r2 : Option Addr) (rN1 rC1 : Nat), ∃ r3 : Int, ∃ r4 : Int, ∃ r5 : Bool, v2 = (.agg #[(.int .u64 r), (.slice r1 rN rC), (.slice r2 rN1 rC1), (.int .i64 r3), (.int .u64 r4), (.bool r5)]) ∧
 (Q (.tuple #[(.agg #[(.int .u64 r), (.slice r1 rN rC), (.slice r2 rN1 rC1), (.int .i64 r3), (.int .u64 r4), (.bool r5)]), (.bool false)]) w3)))
 (RD PG (loadVar 78 a3) w2 fun v3 =>
 ∃ x28 : Int, ∃ (x28v1 : Option Addr) (x28N x28C : Nat), ∃ (x28v2 : Option Addr) (x28N1 x28C1 : Nat), ∃ x28v3 : Int, ∃ x28v4 : Int, ∃ x28v5 : Bool, v3 = (.agg #[(.int .u64 x28), (.slice x28v1 x28N x28C), (.slice x28v2 x28N1 x28C1), (.int .i64 x28v3), (.int .u64 x28v4), (.bool x28v5)]) ∧
 (CALL PG 127 [(.agg #[(.int .u64 x28), (.slice x28v1 x28N x28C), (.slice x28v2 x28N1 x28C1), (.int .i64 x28v3), (.int .u64 x28v4), (.bool x28v5)])] w2 fun v4 w4 =>
 ∃ x29 : Int, v4 = (.int .u64 x29) ∧
 (LETI x29 fun top =>
 ∃ R : Int → World → Prop,
 (RDB PG (loadVar 4 (Addr.add a3 5)) w4 fun x31 =>
 IFB x31
 (RDI PG (loadVar 42 (Addr.add a3 4)) .u64 w4 fun x34 =>
 IFB (decide (x34 < top))
 (RDI PG (loadVar 42 (Addr.add a3 4)) .u64 w4 fun x39 =>
 LETI x39 fun top1 =>
 R top1 w4)
 (R top w4))
 (R top w4)) ∧
 (∀ (top2 : Int) (w5 : World), R top2 w5 → (RD PG (loadVar 78 a3) w5 fun v5 =>
 ∃ x40 : Int, ∃ (x40v1 : Option Addr) (x40N x40C : Nat), ∃ (x40v2 : Option Addr) (x40N1 x40C1 : Nat), ∃ x40v3 : Int, ∃ x40v4 : Int, ∃ x40v5 : Bool, v5 = (.agg #[(.int .u64 x40), (.slice x40v1 x40N x40C), (.slice x40v2 x40N1 x40C1), (.int .i64 x40v3), (.int .u64 x40v4), (.bool x40v5)]) ∧
 (CALL PG 125 [(.agg #[(.int .u64 x40), (.slice x40v1 x40N x40C), (.slice x40v2 x40N1 x40C1), (.int .i64 x40v3), (.int .u64 x40v4), (.bool x40v5)])] w5 fun v6 w6 =>
 ∃ x41 : Int, v6 = (.int .u64 x41) ∧
 (LETI x41 fun next =>
 RUNL PG (Instr.buildSlice 76 0 #[]) w6 fun x42 x42N x42C w7 =>
 RDL PG (loadVar 76 (Addr.add a3 1)) w7 fun x44 x44N x44C =>
 RUNL PG (Builtin.append_ #[76, 76] 76 #[(.slice x42 x42N x42C), (.slice x44 x44N x44C)]) w7 fun x45 x45N x45C w8 =>
 RUNU PG (storeVar 76 (Addr.add a3 1) (.slice x45 x45N x45C)) w8 fun w9 =>
 RUNL PG (Instr.buildSlice 58 0 #[]) w9 fun x47 x47N x47C w10 =>
 RDL PG (loadVar 58 (Addr.add a3 2)) w10 fun x49 x49N x49C =>
 RUNL PG (Builtin.append_ #[58, 58] 58 #[(.slice x47 x47N x47C), (.slice x49 x49N x49C)]) w10 fun x50 x50N x50C w11 =>
 RUNU PG (storeVar 58 (Addr.add a3 2) (.slice x50 x50N x50C)) w11 fun w12 =>
 RDL PG (loadVar 76 (Addr.add a3 1)) w12 fun x53 x53N x53C =>
 RUNL PG (Instr.buildSlice 76 0 #[]) w12 fun x54 x54N x54C w13 =>
 RDL PG (loadVar 76 (Addr.add a3 1)) w13 fun x56 x56N x56C =>
 RUNL PG (Builtin.append_ #[76, 76] 76 #[(.slice x54 x54N x54C), (.slice x56 x56N x56C)]) w13 fun x57 x57N x57C w14 =>
 RUNL PG (Instr.buildSlice 58 0 #[]) w14 fun x58 x58N x58C w15 =>
 RDL PG (loadVar 58 (Addr.add a3 2)) w15 fun x60 x60N x60C =>
 RUNL PG (Builtin.append_ #[58, 58] 58 #[(.slice x58 x58N x58C), (.slice x60 x60N x60C)]) w15 fun x61 x61N x61C w16 =>
 ∃ I : Nat → Bool → Int → Bool → Int → World → Prop,
 (∃ m, I m true (0 : Int) false (0 : Int) w16) ∧
 (∀ m1 (whole : Bool) (least : Int) (any : Bool) (i : Int) (w17 : World), I m1 whole least any i w17 → (IFB (decide (i < (bN : Int)))
 (LETI (IntKind.u64.wrap (fromv + (IntKind.u64.wrap i))) fun n =>
 IFB (decide (n ≥ top2))
 (LETI (IntKind.i64.wrap (i + (1 : Int))) fun i1 =>
 ∃ m2, m2 < m1 ∧ I m2 false least any i1 w17)
 (IFB (decide (n < next))
 (LETI (IntKind.i64.wrap (i + (1 : Int))) fun i2 =>
 ∃ m3, m3 < m1 ∧ I m3 whole least any i2 w17)
 (∃ R1 : Int → Bool → World → Prop,
 (IFB (!any)
 (LETI n fun least1 =>
 R1 least1 true w17)
 (R1 least any w17)) ∧
 (∀ (least2 : Int) (any1 : Bool) (w18 : World), R1 least2 any1 w18 → (RDI PG (loadVar 42 (Addr.add a3 0)) .u64 w18 fun x84 =>
 IDX x53 x53N (IntKind.u64.wrap (n - x84)) fun a86 =>
 RDB PG (loadVar 4 (Addr.add a86 (Int.toNat (IntKind.u64.wrap (n - x84)) * 1))) w18 fun x87 =>
 IFB (!x87)
 (∃ S : World → Prop, S (w18.drew) ∧
 (RDSI PG (loadVar 42 (Addr.add a3 0)) .u64 S fun x92 =>
 RDSI PG (loadVar 42 (Addr.add a3 0)) .u64 S fun x97 =>
 IDX b bN i fun a101 =>
 RDSI PG (loadVar 5 (Addr.add a101 (Int.toNat i * 1))) .u8 S fun x102 =>
 IDX x57 x57N (IntKind.u64.wrap (n - x92)) fun a103 =>
 RUNU PG (storeVar 4 (Addr.add a103 (Int.toNat (IntKind.u64.wrap (n - x92)) * 1)) (.bool true)) (w18.drew) fun w19 =>
 ∃ S1 : World → Prop, (∀ x, S1 x → S x) ∧ S1 w19 ∧
 (IDX x61 x61N (IntKind.u64.wrap (n - x97)) fun a104 =>
 RUNU PG (storeVar 5 (Addr.add a104 (Int.toNat (IntKind.u64.wrap (n - x97)) * 1)) (.int .u8 x102)) w19 fun w20 =>
 LETI (IntKind.i64.wrap (i + (1 : Int))) fun i3 =>
 ∃ m4, m4 < m1 ∧ I m4 whole least2 any1 i3 w20)))
 (LETI (IntKind.i64.wrap (i + (1 : Int))) fun i4 =>
 ∃ m5, m5 < m1 ∧ I m5 whole least2 any1 i4 w18))))))
 (IFB (!any)
 (RD PG (loadVar 78 a3) w17 fun v7 =>
 ∃ x107 : Int, ∃ (x107v1 : Option Addr) (x107N x107C : Nat), ∃ (x107v2 : Option Addr) (x107N1 x107C1 : Nat), ∃ x107v3 : Int, ∃ x107v4 : Int, ∃ x107v5 : Bool, v7 = (.agg #[(.int .u64 x107), (.slice x107v1 x107N x107C), (.slice x107v2 x107N1 x107C1), (.int .i64 x107v3), (.int .u64 x107v4), (.bool x107v5)]) ∧
 (RUNU PG (storeVar 78 a6 (.agg #[(.int .u64 x107), (.slice x107v1 x107N x107C), (.slice x107v2 x107N1 x107C1), (.int .i64 x107v3), (.int .u64 x107v4), (.bool x107v5)])) w17 fun w21 =>
 LETB whole fun x7 =>
 RD PG (loadVar 78 a6) w21 fun v9 =>
 ∃ r6 : Int, ∃ (r7 : Option Addr) (rN2 rC2 : Nat), ∃ (r8 : Option Addr) (rN3 rC3 : Nat), ∃ r9 : Int, ∃ r10 : Int, ∃ r11 : Bool, v9 = (.agg #[(.int .u64 r6), (.slice r7 rN2 rC2), (.slice r8 rN3 rC3), (.int .i64 r9), (.int .u64 r10), (.bool r11)]) ∧
 (Q (.tuple #[(.agg #[(.int .u64 r6), (.slice r7 rN2 rC2), (.slice r8 rN3 rC3), (.int .i64 r9), (.int .u64 r10), (.bool r11)]), (.bool x7)]) w21)))
 (IFB (decide (least > next))
 (RD PG (loadVar 78 a3) w17 fun v10 =>
 ∃ x112 : Int, ∃ (x112v1 : Option Addr) (x112N x112C : Nat), ∃ (x112v2 : Option Addr) (x112N1 x112C1 : Nat), ∃ x112v3 : Int, ∃ x112v4 : Int, ∃ x112v5 : Bool, v10 = (.agg #[(.int .u64 x112), (.slice x112v1 x112N x112C), (.slice x112v2 x112N1 x112C1), (.int .i64 x112v3), (.int .u64 x112v4), (.bool x112v5)]) ∧
 (CALL PG 128 [(.agg #[(.int .u64 x112), (.slice x112v1 x112N x112C), (.slice x112v2 x112N1 x112C1), (.int .i64 x112v3), (.int .u64 x112v4), (.bool x112v5)])] w17 fun v11 w22 =>
 ∃ (x113 : Option Addr) (x113N x113C : Nat), v11 = (.slice x113 x113N x113C) ∧
 (RD PG (loadVar 78 a3) w22 fun v12 =>
 ∃ x114 : Int, ∃ (x114v1 : Option Addr) (x114N x114C : Nat), ∃ (x114v2 : Option Addr) (x114N1 x114C1 : Nat), ∃ x114v3 : Int, ∃ x114v4 : Int, ∃ x114v5 : Bool, v12 = (.agg #[(.int .u64 x114), (.slice x114v1 x114N x114C), (.slice x114v2 x114N1 x114C1), (.int .i64 x114v3), (.int .u64 x114v4), (.bool x114v5)]) ∧
 (RUNA PG (Instr.alloc 78 true (.tuple #[])) w22 fun a19 w23 =>
 RUNU PG (storeVar 78 a19 (.agg #[(.int .u64 x114), (.slice x114v1 x114N x114C), (.slice x114v2 x114N1 x114C1), (.int .i64 x114v3), (.int .u64 x114v4), (.bool x114v5)])) w23 fun w24 =>
 RUNU PG (storeVar 76 (Addr.add a19 1) (.slice x57 x57N x57C)) w24 fun w25 =>
 ∃ S2 : World → Prop, S2 (w25.drew) ∧
 (RDS PG (loadVar 78 a19) S2 fun v13 =>
 ∃ x117 : Int, ∃ (x117v1 : Option Addr) (x117N x117C : Nat), ∃ (x117v2 : Option Addr) (x117N1 x117C1 : Nat), ∃ x117v3 : Int, ∃ x117v4 : Int, ∃ x117v5 : Bool, v13 = (.agg #[(.int .u64 x117), (.slice x117v1 x117N x117C), (.slice x117v2 x117N1 x117C1), (.int .i64 x117v3), (.int .u64 x117v4), (.bool x117v5)]) ∧
 (RDSI PG (loadVar 3 (Addr.add a3 3)) .i64 S2 fun x121 =>
 CALL PG 128 [(.agg #[(.int .u64 x117), (.slice x117v1 x117N x117C), (.slice x117v2 x117N1 x117C1), (.int .i64 x117v3), (.int .u64 x117v4), (.bool x117v5)])] (w25.drew) fun v14 w26 =>
 ∃ (x118 : Option Addr) (x118N x118C : Nat), v14 = (.slice x118 x118N x118C) ∧
 (∃ S3 : World → Prop, (∀ x, S3 x → S2 x) ∧ S3 w26 ∧
 (IFB (decide ((x118N : Int) > x121))
 (RDS PG (loadVar 78 a19) S3 fun v15 =>
 ∃ x124 : Int, ∃ (x124v1 : Option Addr) (x124N x124C : Nat), ∃ (x124v2 : Option Addr) (x124N1 x124C1 : Nat), ∃ x124v3 : Int, ∃ x124v4 : Int, ∃ x124v5 : Bool, v15 = (.agg #[(.int .u64 x124), (.slice x124v1 x124N x124C), (.slice x124v2 x124N1 x124C1), (.int .i64 x124v3), (.int .u64 x124v4), (.bool x124v5)]) ∧
 (CALL PG 128 [(.agg #[(.int .u64 x124), (.slice x124v1 x124N x124C), (.slice x124v2 x124N1 x124C1), (.int .i64 x124v3), (.int .u64 x124v4), (.bool x124v5)])] w26 fun v16 w27 =>
 ∃ (x125 : Option Addr) (x125N x125C : Nat), v16 = (.slice x125 x125N x125C) ∧
 (∃ S4 : World → Prop, (∀ x, S4 x → S3 x) ∧ S4 w27 ∧
 (IFB (decide ((x125N : Int) > (x113N : Int)))
 (RD PG (loadVar 78 a3) w27 fun v17 =>
 ∃ x131 : Int, ∃ (x131v1 : Option Addr) (x131N x131C : Nat), ∃ (x131v2 : Option Addr) (x131N1 x131C1 : Nat), ∃ x131v3 : Int, ∃ x131v4 : Int, ∃ x131v5 : Bool, v17 = (.agg #[(.int .u64 x131), (.slice x131v1 x131N x131C), (.slice x131v2 x131N1 x131C1), (.int .i64 x131v3), (.int .u64 x131v4), (.bool x131v5)]) ∧
 (RUNU PG (storeVar 78 a6 (.agg #[(.int .u64 x131), (.slice x131v1 x131N x131C), (.slice x131v2 x131N1 x131C1), (.int .i64 x131v3), (.int .u64 x131v4), (.bool x131v5)])) w27 fun w28 =>
 RD PG (loadVar 78 a6) w28 fun v19 =>
 ∃ r12 : Int, ∃ (r13 : Option Addr) (rN4 rC4 : Nat), ∃ (r14 : Option Addr) (rN5 rC5 : Nat), ∃ r15 : Int, ∃ r16 : Int, ∃ r17 : Bool, v19 = (.agg #[(.int .u64 r12), (.slice r13 rN4 rC4), (.slice r14 rN5 rC5), (.int .i64 r15), (.int .u64 r16), (.bool r17)]) ∧
 (Q (.tuple #[(.agg #[(.int .u64 r12), (.slice r13 rN4 rC4), (.slice r14 rN5 rC5), (.int .i64 r15), (.int .u64 r16), (.bool r17)]), (.bool false)]) w28)))
 (RUNU PG (storeVar 76 (Addr.add a3 1) (.slice x57 x57N x57C)) w27 fun w29 =>
 RUNU PG (storeVar 58 (Addr.add a3 2) (.slice x61 x61N x61C)) w29 fun w30 =>
 RD PG (loadVar 78 a3) w30 fun v20 =>
 ∃ x136 : Int, ∃ (x136v1 : Option Addr) (x136N x136C : Nat), ∃ (x136v2 : Option Addr) (x136N1 x136C1 : Nat), ∃ x136v3 : Int, ∃ x136v4 : Int, ∃ x136v5 : Bool, v20 = (.agg #[(.int .u64 x136), (.slice x136v1 x136N x136C), (.slice x136v2 x136N1 x136C1), (.int .i64 x136v3), (.int .u64 x136v4), (.bool x136v5)]) ∧
 (RUNU PG (storeVar 78 a6 (.agg #[(.int .u64 x136), (.slice x136v1 x136N x136C), (.slice x136v2 x136N1 x136C1), (.int .i64 x136v3), (.int .u64 x136v4), (.bool x136v5)])) w30 fun w31 =>
 LETB whole fun x7v1 =>
 RD PG (loadVar 78 a6) w31 fun v22 =>
 ∃ r18 : Int, ∃ (r19 : Option Addr) (rN6 rC6 : Nat), ∃ (r20 : Option Addr) (rN7 rC7 : Nat), ∃ r21 : Int, ∃ r22 : Int, ∃ r23 : Bool, v22 = (.agg #[(.int .u64 r18), (.slice r19 rN6 rC6), (.slice r20 rN7 rC7), (.int .i64 r21), (.int .u64 r22), (.bool r23)]) ∧
 (Q (.tuple #[(.agg #[(.int .u64 r18), (.slice r19 rN6 rC6), (.slice r20 rN7 rC7), (.int .i64 r21), (.int .u64 r22), (.bool r23)]), (.bool x7v1)]) w31)))))))
 (RUNU PG (storeVar 76 (Addr.add a3 1) (.slice x57 x57N x57C)) w26 fun w32 =>
 RUNU PG (storeVar 58 (Addr.add a3 2) (.slice x61 x61N x61C)) w32 fun w33 =>
 RD PG (loadVar 78 a3) w33 fun v23 =>
 ∃ x136v6 : Int, ∃ (x136v7 : Option Addr) (x136N2 x136C2 : Nat), ∃ (x136v8 : Option Addr) (x136N3 x136C3 : Nat), ∃ x136v9 : Int, ∃ x136v10 : Int, ∃ x136v11 : Bool, v23 = (.agg #[(.int .u64 x136v6), (.slice x136v7 x136N2 x136C2), (.slice x136v8 x136N3 x136C3), (.int .i64 x136v9), (.int .u64 x136v10), (.bool x136v11)]) ∧
 (RUNU PG (storeVar 78 a6 (.agg #[(.int .u64 x136v6), (.slice x136v7 x136N2 x136C2), (.slice x136v8 x136N3 x136C3), (.int .i64 x136v9), (.int .u64 x136v10), (.bool x136v11)])) w33 fun w34 =>
 LETB whole fun x7v2 =>
 RD PG (loadVar 78 a6) w34 fun v25 =>
 ∃ r24 : Int, ∃ (r25 : Option Addr) (rN8 rC8 : Nat), ∃ (r26 : Option Addr) (rN9 rC9 : Nat), ∃ r27 : Int, ∃ r28 : Int, ∃ r29 : Bool, v25 = (.agg #[(.int .u64 r24), (.slice r25 rN8 rC8), (.slice r26 rN9 rC9), (.int .i64 r27), (.int .u64 r28), (.bool r29)]) ∧
 (Q (.tuple #[(.agg #[(.int .u64 r24), (.slice r25 rN8 rC8), (.slice r26 rN9 rC9), (.int .i64 r27), (.int .u64 r28), (.bool r29)]), (.bool x7v2)]) w34)))))))))))
 (RUNU PG (storeVar 76 (Addr.add a3 1) (.slice x57 x57N x57C)) w17 fun w35 =>
 RUNU PG (storeVar 58 (Addr.add a3 2) (.slice x61 x61N x61C)) w35 fun w36 =>
 RD PG (loadVar 78 a3) w36 fun v26 =>
 ∃ x136v12 : Int, ∃ (x136v13 : Option Addr) (x136N4 x136C4 : Nat), ∃ (x136v14 : Option Addr) (x136N5 x136C5 : Nat), ∃ x136v15 : Int, ∃ x136v16 : Int, ∃ x136v17 : Bool, v26 = (.agg #[(.int .u64 x136v12), (.slice x136v13 x136N4 x136C4), (.slice x136v14 x136N5 x136C5), (.int .i64 x136v15), (.int .u64 x136v16), (.bool x136v17)]) ∧
 (RUNU PG (storeVar 78 a6 (.agg #[(.int .u64 x136v12), (.slice x136v13 x136N4 x136C4), (.slice x136v14 x136N5 x136C5), (.int .i64 x136v15), (.int .u64 x136v16), (.bool x136v17)])) w36 fun w37 =>
 LETB whole fun x7v3 =>
 RD PG (loadVar 78 a6) w37 fun v28 =>
 ∃ r30 : Int, ∃ (r31 : Option Addr) (rN10 rC10 : Nat), ∃ (r32 : Option Addr) (rN11 rC11 : Nat), ∃ r33 : Int, ∃ r34 : Int, ∃ r35 : Bool, v28 = (.agg #[(.int .u64 r30), (.slice r31 rN10 rC10), (.slice r32 rN11 rC11), (.int .i64 r33), (.int .u64 r34), (.bool r35)]) ∧
 (Q (.tuple #[(.agg #[(.int .u64 r30), (.slice r31 rN10 rC10), (.slice r32 rN11 rC11), (.int .i64 r33), (.int .u64 r34), (.bool r35)]), (.bool x7v3)]) w37))))))))))))))
theorem eq94 : ∀ (x : Int) (x1 : Option Addr) (xN xC : Nat) (x2 : Option Addr) (xN1 xC1 : Nat) (x3 : Int) (x4 : Int) (x5 : Bool) (fromv : Int) (b : Option Addr) (bN bC : Nat) (w : World) (Q : Value → World → Prop), vcF PG TB Try.f94 (.s .nil (.s .nil (.s .nil (.cut [(8, 42)] .nil (.s .nil (.s .nil (.s .nil (.s .nil (.s .nil (.s .nil (.s .nil (.s .nil (.s (.s .nil (.u (.loop [(10, 4), (14, 42), (15, 4), (16, 3)] (.s .nil (.s (.u (.s .nil (.s .nil (.s .nil (.cut [(14, 42), (15, 4)] .nil .nil))))) .nil))))) .nil))))))))))))) [(.agg #[(.int .u64 x), (.slice x1 xN xC), (.slice x2 xN1 xC1), (.int .i64 x3), (.int .u64 x4), (.bool x5)]), (.int .u64 fromv), (.slice b bN bC)] w Q = N94 x x1 xN xC x2 xN1 xC1 x3 x4 x5 fromv b bN bC w Q := by intros; kernel_rfl
theorem call94 {x : Int} {x1 : Option Addr} {xN xC : Nat} {x2 : Option Addr} {xN1 xC1 : Nat} {x3 : Int} {x4 : Int} {x5 : Bool} {fromv : Int} {b : Option Addr} {bN bC : Nat} {w : World} {Q : Value → World → Prop} (hN : N94 x x1 xN xC x2 xN1 xC1 x3 x4 x5 fromv b bN bC w Q) : CALL PG 94 [(.agg #[(.int .u64 x), (.slice x1 xN xC), (.slice x2 xN1 xC1), (.int .i64 x3), (.int .u64 x4), (.bool x5)]), (.int .u64 fromv), (.slice b bN bC)] w Q := calls_vc tabOk Try.func94 (by rw [eq94]; exact hN)

end Go.Br
