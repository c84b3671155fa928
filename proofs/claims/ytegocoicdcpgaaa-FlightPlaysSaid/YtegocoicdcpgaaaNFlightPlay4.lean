/- What the code of some functions says, as the core reads it; each reading is checked by the kernel. -/
import Derived.Test.YtegocoicdcpgaaaBrSeat
set_option linter.unusedVariables false
set_option maxRecDepth 100000
namespace Go.Br
open Go Go.Proofs

/-- brougham/broughamlaw16.right -/
def N73 (o : Int) (o1 : Int) (o2 : Int) (o3 : Bool) (o4 : Int) (o5 : Int) (o6 : Int) (o7 : Int) (o8 : Bool) (o9 : Bool) (o10 : Int) (w : World) (Q : Value → World → Prop) : Prop :=
 RUNA PG (Instr.box 125 (.agg #[(.int .i64 o), (.int .u64 o1), (.int .i64 o2), (.bool o3), (.int .i64 o4), (.int .u32 o5), (.int .i64 o6), (.int .i64 o7), (.bool o8), (.bool o9), (.int .i64 o10)])) w fun a1 w1 =>
 RDI PG (loadVar 3 (Addr.add (Addr.add a1 1) 5)) .i64 w1 fun x5 =>
 IFB (decide (x5 ≥ (0 : Int)))
 (RDI PG (loadVar 3 (Addr.add (Addr.add a1 1) 5)) .i64 w1 fun x10 =>
 IFB (decide (x10 < (2147483648 : Int)))
 (RDI PG (loadVar 3 (Addr.add a1 10)) .i64 w1 fun x15 =>
 IFB (decide (x15 ≥ (0 : Int)))
 (RDI PG (loadVar 3 (Addr.add a1 10)) .i64 w1 fun x20 =>
 IFB (decide (x20 < (2147483648 : Int)))
 (RDI PG (loadVar 3 (Addr.add (Addr.add a1 1) 6)) .i64 w1 fun x26 =>
 IFB (decide (x26 ≥ (0 : Int)))
 (RDI PG (loadVar 3 (Addr.add (Addr.add a1 1) 6)) .i64 w1 fun x32 =>
 LETB (decide (x32 ≤ (4096 : Int))) fun x2 =>
 Q (.bool x2) w1)
 (LETB false fun x2v1 =>
 Q (.bool x2v1) w1))
 (LETB false fun x2v2 =>
 Q (.bool x2v2) w1))
 (LETB false fun x2v3 =>
 Q (.bool x2v3) w1))
 (LETB false fun x2v4 =>
 Q (.bool x2v4) w1))
 (LETB false fun x2v5 =>
 Q (.bool x2v5) w1)
theorem eq73 : ∀ (o : Int) (o1 : Int) (o2 : Int) (o3 : Bool) (o4 : Int) (o5 : Int) (o6 : Int) (o7 : Int) (o8 : Bool) (o9 : Bool) (o10 : Int) (w : World) (Q : Value → World → Prop), vcF PG TB Try.f73 .nil [(.agg #[(.int .i64 o), (.int .u64 o1), (.int .i64 o2), (.bool o3), (.int .i64 o4), (.int .u32 o5), (.int .i64 o6), (.int .i64 o7), (.bool o8), (.bool o9), (.int .i64 o10)])] w Q = N73 o o1 o2 o3 o4 o5 o6 o7 o8 o9 o10 w Q := by intros; kernel_rfl
theorem call73 {o : Int} {o1 : Int} {o2 : Int} {o3 : Bool} {o4 : Int} {o5 : Int} {o6 : Int} {o7 : Int} {o8 : Bool} {o9 : Bool} {o10 : Int} {w : World} {Q : Value → World → Prop} (hN : N73 o o1 o2 o3 o4 o5 o6 o7 o8 o9 o10 w Q) : CALL PG 73 [(.agg #[(.int .i64 o), (.int .u64 o1), (.int .i64 o2), (.bool o3), (.int .i64 o4), (.int .u32 o5), (.int .i64 o6), (.int .i64 o7), (.bool o8), (.bool o9), (.int .i64 o10)])] w Q := calls_vc tabOk Try.func73 (by rw [eq73]; exact hN)

/-- brougham/broughamlaw16.most -/
def N75 (n : Int) (w : World) (Q : Value → World → Prop) : Prop :=
 IFB (decide (n < (1 : Int)))
 (Q (.int .i64 (1 : Int)) w)
 (IFB (decide (n > (64 : Int)))
 (Q (.int .i64 (64 : Int)) w)
 (LETI n fun x2 =>
 Q (.int .i64 x2) w))
theorem eq75 : ∀ (n : Int) (w : World) (Q : Value → World → Prop), vcF PG TB Try.f75 .nil [(.int .i64 n)] w Q = N75 n w Q := by intros; kernel_rfl
theorem call75 {n : Int} {w : World} {Q : Value → World → Prop} (hN : N75 n w Q) : CALL PG 75 [(.int .i64 n)] w Q := calls_vc tabOk Try.func75 (by rw [eq75]; exact hN)

/-- brougham/broughamlaw16.again -/
def N77 (r : Option Addr) (rN rC : Nat) (w : World) (Q : Value → World → Prop) : Prop :=
 RUNA PG (Instr.alloc 130 true (.tuple #[])) w fun a2 w1 =>
 ∃ I : Nat → Int → World → Prop,
 (∃ m, I m (0 : Int) w1) ∧
 (∀ m1 (i : Int) (w2 : World), I m1 i w2 → (IFB (decide (i < (rN : Int)))
 (IDX r rN i fun a13 =>
 RDB PG (loadVar 4 (Addr.add (Addr.add a13 (Int.toNat i * 9)) 8)) w2 fun x15 =>
 IFB x15
 (IDX r rN i fun a18 =>
 RD PG (loadVar 130 (Addr.add a18 (Int.toNat i * 9))) w2 fun v =>
 ∃ x19 : Int, ∃ x19v1 : Int, ∃ x19v2 : Bool, ∃ x19v3 : Int, ∃ x19v4 : Int, ∃ x19v5 : Int, ∃ x19v6 : Int, ∃ x19v7 : Bool, ∃ x19v8 : Bool, v = (.agg #[(.int .u64 x19), (.int .i64 x19v1), (.bool x19v2), (.int .i64 x19v3), (.int .u32 x19v4), (.int .i64 x19v5), (.int .i64 x19v6), (.bool x19v7), (.bool x19v8)]) ∧
 (RUNU PG (storeVar 130 a2 (.agg #[(.int .u64 x19), (.int .i64 x19v1), (.bool x19v2), (.int .i64 x19v3), (.int .u32 x19v4), (.int .i64 x19v5), (.int .i64 x19v6), (.bool x19v7), (.bool x19v8)])) w2 fun w3 =>
 RD PG (loadVar 130 a2) w3 fun v2 =>
 ∃ r1 : Int, ∃ r2 : Int, ∃ r3 : Bool, ∃ r4 : Int, ∃ r5 : Int, ∃ r6 : Int, ∃ r7 : Int, ∃ r8 : Bool, ∃ r9 : Bool, v2 = (.agg #[(.int .u64 r1), (.int .i64 r2), (.bool r3), (.int .i64 r4), (.int .u32 r5), (.int .i64 r6), (.int .i64 r7), (.bool r8), (.bool r9)]) ∧
 (Q (.tuple #[(.agg #[(.int .u64 r1), (.int .i64 r2), (.bool r3), (.int .i64 r4), (.int .u32 r5), (.int .i64 r6), (.int .i64 r7), (.bool r8), (.bool r9)]), (.bool true)]) w3)))
 (LETI (IntKind.i64.wrap (i + (1 : Int))) fun i1 =>
 ∃ m2, m2 < m1 ∧ I m2 i1 w2))
 (RD PG (Instr.build 130 #[]) w2 fun v3 =>
 ∃ x20 : Int, ∃ x20v1 : Int, ∃ x20v2 : Bool, ∃ x20v3 : Int, ∃ x20v4 : Int, ∃ x20v5 : Int, ∃ x20v6 : Int, ∃ x20v7 : Bool, ∃ x20v8 : Bool, v3 = (.agg #[(.int .u64 x20), (.int .i64 x20v1), (.bool x20v2), (.int .i64 x20v3), (.int .u32 x20v4), (.int .i64 x20v5), (.int .i64 x20v6), (.bool x20v7), (.bool x20v8)]) ∧
 (RUNU PG (storeVar 130 a2 (.agg #[(.int .u64 x20), (.int .i64 x20v1), (.bool x20v2), (.int .i64 x20v3), (.int .u32 x20v4), (.int .i64 x20v5), (.int .i64 x20v6), (.bool x20v7), (.bool x20v8)])) w2 fun w4 =>
 RD PG (loadVar 130 a2) w4 fun v5 =>
 ∃ r10 : Int, ∃ r11 : Int, ∃ r12 : Bool, ∃ r13 : Int, ∃ r14 : Int, ∃ r15 : Int, ∃ r16 : Int, ∃ r17 : Bool, ∃ r18 : Bool, v5 = (.agg #[(.int .u64 r10), (.int .i64 r11), (.bool r12), (.int .i64 r13), (.int .u32 r14), (.int .i64 r15), (.int .i64 r16), (.bool r17), (.bool r18)]) ∧
 (Q (.tuple #[(.agg #[(.int .u64 r10), (.int .i64 r11), (.bool r12), (.int .i64 r13), (.int .u32 r14), (.int .i64 r15), (.int .i64 r16), (.bool r17), (.bool r18)]), (.bool false)]) w4)))))
theorem eq77 : ∀ (r : Option Addr) (rN rC : Nat) (w : World) (Q : Value → World → Prop), vcF PG TB Try.f77 (.s .nil (.s (.s .nil (.u (.loop [(4, 3)] .nil))) .nil)) [(.slice r rN rC)] w Q = N77 r rN rC w Q := by intros; kernel_rfl
theorem call77 {r : Option Addr} {rN rC : Nat} {w : World} {Q : Value → World → Prop} (hN : N77 r rN rC w Q) : CALL PG 77 [(.slice r rN rC)] w Q := calls_vc tabOk Try.func77 (by rw [eq77]; exact hN)

/-- brougham/broughamref16.Resent -/
def N115 (l : Option Addr) (lN lC : Nat) (fromv : Int) (fin : Bool) (x : Int) (x1 : Int) (x2 : Bool) (x3 : Int) (x4 : Int) (x5 : Int) (x6 : Int) (x7 : Bool) (x8 : Bool) (w : World) (Q : Value → World → Prop) : Prop :=
 RUNA PG (Instr.box 130 (.agg #[(.int .u64 x), (.int .i64 x1), (.bool x2), (.int .i64 x3), (.int .u32 x4), (.int .i64 x5), (.int .i64 x6), (.bool x7), (.bool x8)])) w fun a7 w1 =>
 ∃ I : Nat → Option Addr → Nat → Nat → Bool → Int → World → Prop,
 (∃ m, I m none 0 0 false (0 : Int) w1) ∧
 (∀ m1 (out : Option Addr) (outN outC : Nat) (done : Bool) (i : Int) (w2 : World), I m1 out outN outC done i w2 → (IFB (decide (i < (lN : Int)))
 (IDX l lN i fun a22 =>
 RD PG (loadVar 130 (Addr.add a22 (Int.toNat i * 9))) w2 fun v =>
 ∃ x23 : Int, ∃ x23v1 : Int, ∃ x23v2 : Bool, ∃ x23v3 : Int, ∃ x23v4 : Int, ∃ x23v5 : Int, ∃ x23v6 : Int, ∃ x23v7 : Bool, ∃ x23v8 : Bool, v = (.agg #[(.int .u64 x23), (.int .i64 x23v1), (.bool x23v2), (.int .i64 x23v3), (.int .u32 x23v4), (.int .i64 x23v5), (.int .i64 x23v6), (.bool x23v7), (.bool x23v8)]) ∧
 (RUNA PG (Instr.alloc 130 true (.tuple #[])) w2 fun a13 w3 =>
 RUNU PG (storeVar 130 a13 (.agg #[(.int .u64 x23), (.int .i64 x23v1), (.bool x23v2), (.int .i64 x23v3), (.int .u32 x23v4), (.int .i64 x23v5), (.int .i64 x23v6), (.bool x23v7), (.bool x23v8)])) w3 fun w4 =>
 ∃ R : Bool → World → Prop,
 (IFB (!done)
 (RDI PG (loadVar 40 (Addr.add a13 0)) .u64 w4 fun x28 =>
 IFB (x28 == fromv)
 (RDB PG (loadVar 4 (Addr.add a13 2)) w4 fun x34 =>
 R (x34 == fin) w4)
 (R false w4))
 (R false w4)) ∧
 (∀ (x37 : Bool) (w5 : World), R x37 w5 → (IFB x37
 (∃ S : World → Prop, S (w5.drew) ∧
 (RDSI PG (loadVar 3 (Addr.add a7 3)) .i64 S fun x39 =>
 RDSI PG (loadVar 44 (Addr.add a7 4)) .u32 S fun x41 =>
 RDSI PG (loadVar 3 (Addr.add a7 5)) .i64 S fun x43 =>
 RUNU PG (storeVar 3 (Addr.add a13 3) (.int .i64 x39)) (w5.drew) fun w6 =>
 ∃ S1 : World → Prop, (∀ x, S1 x → S x) ∧ S1 w6 ∧
 (RUNU PG (storeVar 44 (Addr.add a13 4) (.int .u32 x41)) w6 fun w7 =>
 ∃ S2 : World → Prop, (∀ x, S2 x → S1 x) ∧ S2 w7 ∧
 (RUNU PG (storeVar 3 (Addr.add a13 5) (.int .i64 x43)) w7 fun w8 =>
 RUNU PG (storeVar 4 (Addr.add a13 7) (.bool false)) w8 fun w9 =>
 RUNU PG (storeVar 4 (Addr.add a13 8) (.bool false)) w9 fun w10 =>
 RDI PG (loadVar 3 (Addr.add a13 6)) .i64 w10 fun x50 =>
 RUNU PG (storeVar 3 (Addr.add a13 6) (.int .i64 (IntKind.i64.wrap (x50 + (1 : Int))))) w10 fun w11 =>
 RDI PG (loadVar 3 (Addr.add a13 6)) .i64 w11 fun x54 =>
 IFB (decide (x54 > (4096 : Int)))
 (RUNU PG (storeVar 3 (Addr.add a13 6) (.int .i64 (4096 : Int))) w11 fun w12 =>
 RD PG (loadVar 130 a13) w12 fun v1 =>
 ∃ x58 : Int, ∃ x58v1 : Int, ∃ x58v2 : Bool, ∃ x58v3 : Int, ∃ x58v4 : Int, ∃ x58v5 : Int, ∃ x58v6 : Int, ∃ x58v7 : Bool, ∃ x58v8 : Bool, v1 = (.agg #[(.int .u64 x58), (.int .i64 x58v1), (.bool x58v2), (.int .i64 x58v3), (.int .u32 x58v4), (.int .i64 x58v5), (.int .i64 x58v6), (.bool x58v7), (.bool x58v8)]) ∧
 (RUNL PG (Instr.buildSlice 122 1 #[(0, (.agg #[(.int .u64 x58), (.int .i64 x58v1), (.bool x58v2), (.int .i64 x58v3), (.int .u32 x58v4), (.int .i64 x58v5), (.int .i64 x58v6), (.bool x58v7), (.bool x58v8)]))]) w12 fun x59 x59N x59C w13 =>
 RUNL PG (Builtin.append_ #[122, 122] 122 #[(.slice out outN outC), (.slice x59 x59N x59C)]) w13 fun x60 x60N x60C w14 =>
 LETI (IntKind.i64.wrap (i + (1 : Int))) fun i1 =>
 ∃ m2, m2 < m1 ∧ I m2 x60 x60N x60C true i1 w14))
 (RD PG (loadVar 130 a13) w11 fun v2 =>
 ∃ x58v9 : Int, ∃ x58v10 : Int, ∃ x58v11 : Bool, ∃ x58v12 : Int, ∃ x58v13 : Int, ∃ x58v14 : Int, ∃ x58v15 : Int, ∃ x58v16 : Bool, ∃ x58v17 : Bool, v2 = (.agg #[(.int .u64 x58v9), (.int .i64 x58v10), (.bool x58v11), (.int .i64 x58v12), (.int .u32 x58v13), (.int .i64 x58v14), (.int .i64 x58v15), (.bool x58v16), (.bool x58v17)]) ∧
 (RUNL PG (Instr.buildSlice 122 1 #[(0, (.agg #[(.int .u64 x58v9), (.int .i64 x58v10), (.bool x58v11), (.int .i64 x58v12), (.int .u32 x58v13), (.int .i64 x58v14), (.int .i64 x58v15), (.bool x58v16), (.bool x58v17)]))]) w11 fun x59v1 x59N1 x59C1 w15 =>
 RUNL PG (Builtin.append_ #[122, 122] 122 #[(.slice out outN outC), (.slice x59v1 x59N1 x59C1)]) w15 fun x60v1 x60N1 x60C1 w16 =>
 LETI (IntKind.i64.wrap (i + (1 : Int))) fun i2 =>
 ∃ m3, m3 < m1 ∧ I m3 x60v1 x60N1 x60C1 true i2 w16))))))
 (RD PG (loadVar 130 a13) w5 fun v3 =>
 ∃ x58v18 : Int, ∃ x58v19 : Int, ∃ x58v20 : Bool, ∃ x58v21 : Int, ∃ x58v22 : Int, ∃ x58v23 : Int, ∃ x58v24 : Int, ∃ x58v25 : Bool, ∃ x58v26 : Bool, v3 = (.agg #[(.int .u64 x58v18), (.int .i64 x58v19), (.bool x58v20), (.int .i64 x58v21), (.int .u32 x58v22), (.int .i64 x58v23), (.int .i64 x58v24), (.bool x58v25), (.bool x58v26)]) ∧
 (RUNL PG (Instr.buildSlice 122 1 #[(0, (.agg #[(.int .u64 x58v18), (.int .i64 x58v19), (.bool x58v20), (.int .i64 x58v21), (.int .u32 x58v22), (.int .i64 x58v23), (.int .i64 x58v24), (.bool x58v25), (.bool x58v26)]))]) w5 fun x59v2 x59N2 x59C2 w17 =>
 RUNL PG (Builtin.append_ #[122, 122] 122 #[(.slice out outN outC), (.slice x59v2 x59N2 x59C2)]) w17 fun x60v2 x60N2 x60C2 w18 =>
 LETI (IntKind.i64.wrap (i + (1 : Int))) fun i3 =>
 ∃ m4, m4 < m1 ∧ I m4 x60v2 x60N2 x60C2 done i3 w18))))))
 (LETB done fun x9 =>
 Q (.tuple #[(.slice out outN outC), (.bool x9)]) w2)))
theorem eq115 : ∀ (l : Option Addr) (lN lC : Nat) (fromv : Int) (fin : Bool) (x : Int) (x1 : Int) (x2 : Bool) (x3 : Int) (x4 : Int) (x5 : Int) (x6 : Int) (x7 : Bool) (x8 : Bool) (w : World) (Q : Value → World → Prop), vcF PG TB Try.f115 (.s .nil (.s .nil (.s .nil (.s (.s .nil (.u (.loop [(10, 122), (11, 4), (12, 3)] (.s .nil (.s (.u (.s .nil (.s (.cut [(37, 4)] .nil .nil) .nil))) .nil))))) .nil)))) [(.slice l lN lC), (.int .u64 fromv), (.bool fin), (.agg #[(.int .u64 x), (.int .i64 x1), (.bool x2), (.int .i64 x3), (.int .u32 x4), (.int .i64 x5), (.int .i64 x6), (.bool x7), (.bool x8)])] w Q = N115 l lN lC fromv fin x x1 x2 x3 x4 x5 x6 x7 x8 w Q := by intros; kernel_rfl
theorem call115 {l : Option Addr} {lN lC : Nat} {fromv : Int} {fin : Bool} {x : Int} {x1 : Int} {x2 : Bool} {x3 : Int} {x4 : Int} {x5 : Int} {x6 : Int} {x7 : Bool} {x8 : Bool} {w : World} {Q : Value → World → Prop} (hN : N115 l lN lC fromv fin x x1 x2 x3 x4 x5 x6 x7 x8 w Q) : CALL PG 115 [(.slice l lN lC), (.int .u64 fromv), (.bool fin), (.agg #[(.int .u64 x), (.int .i64 x1), (.bool x2), (.int .i64 x3), (.int .u32 x4), (.int .i64 x5), (.int .i64 x6), (.bool x7), (.bool x8)])] w Q := calls_vc tabOk Try.func115 (by rw [eq115]; exact hN)

end Go.Br
