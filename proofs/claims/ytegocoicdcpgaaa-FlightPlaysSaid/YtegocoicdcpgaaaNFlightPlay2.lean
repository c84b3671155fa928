/- What the code of some functions says, as the core reads it; each reading is checked by the kernel. -/
import Derived.Test.YtegocoicdcpgaaaBrSeat
set_option linter.unusedVariables false
set_option maxRecDepth 100000
namespace Go.Br
open Go Go.Proofs

/-- brougham/broughamref16.Same -/
def N78 (a : Option Addr) (aN aC : Nat) (b : Option Addr) (bN bC : Nat) (w : World) (Q : Value → World → Prop) : Prop :=
 IFB ((aN : Int) != (bN : Int))
 (Q (.bool false) w)
 (∃ I : Nat → Int → World → Prop,
 (∃ m, I m (0 : Int) w) ∧
 (∀ m1 (i : Int) (w1 : World), I m1 i w1 → (IFB (decide (i < (aN : Int)))
 (IDX a aN i fun a19 =>
 RD PG (loadVar 130 (Addr.add a19 (Int.toNat i * 9))) (w1.drew) fun v =>
 ∃ x20 : Int, ∃ x20v1 : Int, ∃ x20v2 : Bool, ∃ x20v3 : Int, ∃ x20v4 : Int, ∃ x20v5 : Int, ∃ x20v6 : Int, ∃ x20v7 : Bool, ∃ x20v8 : Bool, v = (.agg #[(.int .u64 x20), (.int .i64 x20v1), (.bool x20v2), (.int .i64 x20v3), (.int .u32 x20v4), (.int .i64 x20v5), (.int .i64 x20v6), (.bool x20v7), (.bool x20v8)]) ∧
 (IDX b bN i fun a23 =>
 RD PG (loadVar 130 (Addr.add a23 (Int.toNat i * 9))) (w1.drew) fun v1 =>
 ∃ x24 : Int, ∃ x24v1 : Int, ∃ x24v2 : Bool, ∃ x24v3 : Int, ∃ x24v4 : Int, ∃ x24v5 : Int, ∃ x24v6 : Int, ∃ x24v7 : Bool, ∃ x24v8 : Bool, v1 = (.agg #[(.int .u64 x24), (.int .i64 x24v1), (.bool x24v2), (.int .i64 x24v3), (.int .u32 x24v4), (.int .i64 x24v5), (.int .i64 x24v6), (.bool x24v7), (.bool x24v8)]) ∧
 (RDB PG (do eqGuard .neq 130 (.tmp 20) (.tmp 24) (.agg #[(.int .u64 x20), (.int .i64 x20v1), (.bool x20v2), (.int .i64 x20v3), (.int .u32 x20v4), (.int .i64 x20v5), (.int .i64 x20v6), (.bool x20v7), (.bool x20v8)]) (.agg #[(.int .u64 x24), (.int .i64 x24v1), (.bool x24v2), (.int .i64 x24v3), (.int .u32 x24v4), (.int .i64 x24v5), (.int .i64 x24v6), (.bool x24v7), (.bool x24v8)]); binOp .neq 130 (.agg #[(.int .u64 x20), (.int .i64 x20v1), (.bool x20v2), (.int .i64 x20v3), (.int .u32 x20v4), (.int .i64 x20v5), (.int .i64 x20v6), (.bool x20v7), (.bool x20v8)]) (.agg #[(.int .u64 x24), (.int .i64 x24v1), (.bool x24v2), (.int .i64 x24v3), (.int .u32 x24v4), (.int .i64 x24v5), (.int .i64 x24v6), (.bool x24v7), (.bool x24v8)])) (w1.drew) fun x25 =>
 IFB x25
 (Q (.bool false) (w1.drew))
 (LETI (IntKind.i64.wrap (i + (1 : Int))) fun i1 =>
 ∃ m2, m2 < m1 ∧ I m2 i1 (w1.drew)))))
 (Q (.bool true) w1))))
theorem eq78 : ∀ (a : Option Addr) (aN aC : Nat) (b : Option Addr) (bN bC : Nat) (w : World) (Q : Value → World → Prop), vcF PG TB Try.f78 (.s .nil (.s .nil (.s (.s .nil (.u (.loop [(5, 3)] .nil))) .nil))) [(.slice a aN aC), (.slice b bN bC)] w Q = N78 a aN aC b bN bC w Q := by intros; kernel_rfl
theorem call78 {a : Option Addr} {aN aC : Nat} {b : Option Addr} {bN bC : Nat} {w : World} {Q : Value → World → Prop} (hN : N78 a aN aC b bN bC w Q) : CALL PG 78 [(.slice a aN aC), (.slice b bN bC)] w Q := calls_vc tabOk Try.func78 (by rw [eq78]; exact hN)

/-- brougham/broughamlaw16.plain -/
def N79 (l : Option Addr) (lN lC : Nat) (w : World) (Q : Value → World → Prop) : Prop :=
 ∃ I : Nat → Option Addr → Nat → Nat → Int → World → Prop,
 (∃ m, I m none 0 0 (0 : Int) w) ∧
 (∀ m1 (out : Option Addr) (outN outC : Nat) (i : Int) (w1 : World), I m1 out outN outC i w1 → (IFB (decide (i < (lN : Int)))
 (IDX l lN i fun a14 =>
 RD PG (loadVar 46 (Addr.add a14 (Int.toNat i * 9))) w1 fun v =>
 ∃ x15 : Int, ∃ x15v1 : Int, ∃ x15v2 : Bool, ∃ x15v3 : Int, ∃ x15v4 : Int, ∃ x15v5 : Int, ∃ x15v6 : Int, ∃ x15v7 : Bool, ∃ x15v8 : Bool, v = (.agg #[(.int .u64 x15), (.int .i64 x15v1), (.bool x15v2), (.int .i64 x15v3), (.int .u32 x15v4), (.int .i64 x15v5), (.int .i64 x15v6), (.bool x15v7), (.bool x15v8)]) ∧
 (CALL PG 82 [(.agg #[(.int .u64 x15), (.int .i64 x15v1), (.bool x15v2), (.int .i64 x15v3), (.int .u32 x15v4), (.int .i64 x15v5), (.int .i64 x15v6), (.bool x15v7), (.bool x15v8)])] w1 fun v1 w2 =>
 ∃ x16 : Int, ∃ x16v1 : Int, ∃ x16v2 : Bool, ∃ x16v3 : Int, ∃ x16v4 : Int, ∃ x16v5 : Int, ∃ x16v6 : Int, ∃ x16v7 : Bool, ∃ x16v8 : Bool, v1 = (.agg #[(.int .u64 x16), (.int .i64 x16v1), (.bool x16v2), (.int .i64 x16v3), (.int .u32 x16v4), (.int .i64 x16v5), (.int .i64 x16v6), (.bool x16v7), (.bool x16v8)]) ∧
 (RUNL PG (Instr.buildSlice 122 1 #[(0, (.agg #[(.int .u64 x16), (.int .i64 x16v1), (.bool x16v2), (.int .i64 x16v3), (.int .u32 x16v4), (.int .i64 x16v5), (.int .i64 x16v6), (.bool x16v7), (.bool x16v8)]))]) w2 fun x17 x17N x17C w3 =>
 RUNL PG (Builtin.append_ #[122, 122] 122 #[(.slice out outN outC), (.slice x17 x17N x17C)]) w3 fun x18 x18N x18C w4 =>
 LETI (IntKind.i64.wrap (i + (1 : Int))) fun i1 =>
 ∃ m2, m2 < m1 ∧ I m2 x18 x18N x18C i1 w4)))
 (Q (.slice out outN outC) w1)))
theorem eq79 : ∀ (l : Option Addr) (lN lC : Nat) (w : World) (Q : Value → World → Prop), vcF PG TB Try.f79 (.s .nil (.s .nil (.s (.s .nil (.u (.loop [(3, 122), (4, 3)] .nil))) .nil))) [(.slice l lN lC)] w Q = N79 l lN lC w Q := by intros; kernel_rfl
theorem call79 {l : Option Addr} {lN lC : Nat} {w : World} {Q : Value → World → Prop} (hN : N79 l lN lC w Q) : CALL PG 79 [(.slice l lN lC)] w Q := calls_vc tabOk Try.func79 (by rw [eq79]; exact hN)

/-- brougham/broughamlaw16.one -/
def N82 (c : Int) (c1 : Int) (c2 : Bool) (c3 : Int) (c4 : Int) (c5 : Int) (c6 : Int) (c7 : Bool) (c8 : Bool) (w : World) (Q : Value → World → Prop) : Prop :=
 RUNA PG (Instr.box 46 (.agg #[(.int .u64 c), (.int .i64 c1), (.bool c2), (.int .i64 c3), (.int .u32 c4), (.int .i64 c5), (.int .i64 c6), (.bool c7), (.bool c8)])) w fun a1 w1 =>
 RUNA PG (Instr.alloc 130 true (.tuple #[])) w1 fun a2 w2 =>
 RDI PG (loadVar 40 (Addr.add a1 0)) .u64 w2 fun x4 =>
 RDI PG (loadVar 3 (Addr.add a1 1)) .i64 w2 fun x6 =>
 RDB PG (loadVar 4 (Addr.add a1 2)) w2 fun x8 =>
 RDI PG (loadVar 3 (Addr.add a1 3)) .i64 w2 fun x10 =>
 RDI PG (loadVar 44 (Addr.add a1 4)) .u32 w2 fun x12 =>
 RDI PG (loadVar 3 (Addr.add a1 5)) .i64 w2 fun x14 =>
 RDI PG (loadVar 3 (Addr.add a1 6)) .i64 w2 fun x16 =>
 RDB PG (loadVar 4 (Addr.add a1 7)) w2 fun x18 =>
 RDB PG (loadVar 4 (Addr.add a1 8)) w2 fun x20 =>
 RD PG (Instr.build 130 #[(0, (.int .u64 x4)), (1, (.int .i64 x6)), (2, (.bool x8)), (3, (.int .i64 x10)), (4, (.int .u32 x12)), (5, (.int .i64 x14)), (6, (.int .i64 x16)), (7, (.bool x18)), (8, (.bool x20))]) w2 fun v =>
 ∃ x21 : Int, ∃ x21v1 : Int, ∃ x21v2 : Bool, ∃ x21v3 : Int, ∃ x21v4 : Int, ∃ x21v5 : Int, ∃ x21v6 : Int, ∃ x21v7 : Bool, ∃ x21v8 : Bool, v = (.agg #[(.int .u64 x21), (.int .i64 x21v1), (.bool x21v2), (.int .i64 x21v3), (.int .u32 x21v4), (.int .i64 x21v5), (.int .i64 x21v6), (.bool x21v7), (.bool x21v8)]) ∧
 (RUNU PG (storeVar 130 a2 (.agg #[(.int .u64 x21), (.int .i64 x21v1), (.bool x21v2), (.int .i64 x21v3), (.int .u32 x21v4), (.int .i64 x21v5), (.int .i64 x21v6), (.bool x21v7), (.bool x21v8)])) w2 fun w3 =>
 RD PG (loadVar 130 a2) w3 fun v2 =>
 ∃ r : Int, ∃ r1 : Int, ∃ r2 : Bool, ∃ r3 : Int, ∃ r4 : Int, ∃ r5 : Int, ∃ r6 : Int, ∃ r7 : Bool, ∃ r8 : Bool, v2 = (.agg #[(.int .u64 r), (.int .i64 r1), (.bool r2), (.int .i64 r3), (.int .u32 r4), (.int .i64 r5), (.int .i64 r6), (.bool r7), (.bool r8)]) ∧
 (Q (.agg #[(.int .u64 r), (.int .i64 r1), (.bool r2), (.int .i64 r3), (.int .u32 r4), (.int .i64 r5), (.int .i64 r6), (.bool r7), (.bool r8)]) w3))
theorem eq82 : ∀ (c : Int) (c1 : Int) (c2 : Bool) (c3 : Int) (c4 : Int) (c5 : Int) (c6 : Int) (c7 : Bool) (c8 : Bool) (w : World) (Q : Value → World → Prop), vcF PG TB Try.f82 .nil [(.agg #[(.int .u64 c), (.int .i64 c1), (.bool c2), (.int .i64 c3), (.int .u32 c4), (.int .i64 c5), (.int .i64 c6), (.bool c7), (.bool c8)])] w Q = N82 c c1 c2 c3 c4 c5 c6 c7 c8 w Q := by intros; kernel_rfl
theorem call82 {c : Int} {c1 : Int} {c2 : Bool} {c3 : Int} {c4 : Int} {c5 : Int} {c6 : Int} {c7 : Bool} {c8 : Bool} {w : World} {Q : Value → World → Prop} (hN : N82 c c1 c2 c3 c4 c5 c6 c7 c8 w Q) : CALL PG 82 [(.agg #[(.int .u64 c), (.int .i64 c1), (.bool c2), (.int .i64 c3), (.int .u32 c4), (.int .i64 c5), (.int .i64 c6), (.bool c7), (.bool c8)])] w Q := calls_vc tabOk Try.func82 (by rw [eq82]; exact hN)

/-- (*brougham/flight.List).First -/
def N83 (x : Option Addr) (w : World) (Q : Value → World → Prop) : Prop :=
 RUNA PG (Instr.alloc 46 true (.tuple #[])) w fun a2 w1 =>
 NILC x fun a5 =>
 RDL PG (loadVar 47 (Addr.add a5 1)) w1 fun x7 x7N x7C =>
 IFB ((x7N : Int) == (0 : Int))
 (RD PG (Instr.build 46 #[]) w1 fun v =>
 ∃ x10 : Int, ∃ x10v1 : Int, ∃ x10v2 : Bool, ∃ x10v3 : Int, ∃ x10v4 : Int, ∃ x10v5 : Int, ∃ x10v6 : Int, ∃ x10v7 : Bool, ∃ x10v8 : Bool, v = (.agg #[(.int .u64 x10), (.int .i64 x10v1), (.bool x10v2), (.int .i64 x10v3), (.int .u32 x10v4), (.int .i64 x10v5), (.int .i64 x10v6), (.bool x10v7), (.bool x10v8)]) ∧
 (RUNU PG (storeVar 46 a2 (.agg #[(.int .u64 x10), (.int .i64 x10v1), (.bool x10v2), (.int .i64 x10v3), (.int .u32 x10v4), (.int .i64 x10v5), (.int .i64 x10v6), (.bool x10v7), (.bool x10v8)])) w1 fun w2 =>
 RD PG (loadVar 46 a2) w2 fun v2 =>
 ∃ r : Int, ∃ r1 : Int, ∃ r2 : Bool, ∃ r3 : Int, ∃ r4 : Int, ∃ r5 : Int, ∃ r6 : Int, ∃ r7 : Bool, ∃ r8 : Bool, v2 = (.agg #[(.int .u64 r), (.int .i64 r1), (.bool r2), (.int .i64 r3), (.int .u32 r4), (.int .i64 r5), (.int .i64 r6), (.bool r7), (.bool r8)]) ∧
 (Q (.tuple #[(.agg #[(.int .u64 r), (.int .i64 r1), (.bool r2), (.int .i64 r3), (.int .u32 r4), (.int .i64 r5), (.int .i64 r6), (.bool r7), (.bool r8)]), (.bool false)]) w2)))
 (NILC x fun a12 =>
 RDL PG (loadVar 47 (Addr.add a12 1)) w1 fun x14 x14N x14C =>
 IDX x14 x14N (0 : Int) fun a15 =>
 RD PG (loadVar 46 (Addr.add a15 (Int.toNat (0 : Int) * 9))) w1 fun v3 =>
 ∃ x16 : Int, ∃ x16v1 : Int, ∃ x16v2 : Bool, ∃ x16v3 : Int, ∃ x16v4 : Int, ∃ x16v5 : Int, ∃ x16v6 : Int, ∃ x16v7 : Bool, ∃ x16v8 : Bool, v3 = (.agg #[(.int .u64 x16), (.int .i64 x16v1), (.bool x16v2), (.int .i64 x16v3), (.int .u32 x16v4), (.int .i64 x16v5), (.int .i64 x16v6), (.bool x16v7), (.bool x16v8)]) ∧
 (RUNU PG (storeVar 46 a2 (.agg #[(.int .u64 x16), (.int .i64 x16v1), (.bool x16v2), (.int .i64 x16v3), (.int .u32 x16v4), (.int .i64 x16v5), (.int .i64 x16v6), (.bool x16v7), (.bool x16v8)])) w1 fun w3 =>
 RD PG (loadVar 46 a2) w3 fun v5 =>
 ∃ r9 : Int, ∃ r10 : Int, ∃ r11 : Bool, ∃ r12 : Int, ∃ r13 : Int, ∃ r14 : Int, ∃ r15 : Int, ∃ r16 : Bool, ∃ r17 : Bool, v5 = (.agg #[(.int .u64 r9), (.int .i64 r10), (.bool r11), (.int .i64 r12), (.int .u32 r13), (.int .i64 r14), (.int .i64 r15), (.bool r16), (.bool r17)]) ∧
 (Q (.tuple #[(.agg #[(.int .u64 r9), (.int .i64 r10), (.bool r11), (.int .i64 r12), (.int .u32 r13), (.int .i64 r14), (.int .i64 r15), (.bool r16), (.bool r17)]), (.bool true)]) w3)))
theorem eq83 : ∀ (x : Option Addr) (w : World) (Q : Value → World → Prop), vcF PG TB Try.f83 .nil [(.pointer x)] w Q = N83 x w Q := by intros; kernel_rfl
theorem call83 {x : Option Addr} {w : World} {Q : Value → World → Prop} (hN : N83 x w Q) : CALL PG 83 [(.pointer x)] w Q := calls_vc tabOk Try.func83 (by rw [eq83]; exact hN)

/-- brougham/broughamref16.To -/
def N84 (c : Int) (c1 : Int) (c2 : Bool) (c3 : Int) (c4 : Int) (c5 : Int) (c6 : Int) (c7 : Bool) (c8 : Bool) (w : World) (Q : Value → World → Prop) : Prop :=
 RUNA PG (Instr.box 130 (.agg #[(.int .u64 c), (.int .i64 c1), (.bool c2), (.int .i64 c3), (.int .u32 c4), (.int .i64 c5), (.int .i64 c6), (.bool c7), (.bool c8)])) w fun a1 w1 =>
 RDI PG (loadVar 40 (Addr.add a1 0)) .u64 w1 fun x5 =>
 LETI x5 fun n =>
 RDI PG (loadVar 3 (Addr.add a1 1)) .i64 w1 fun x7 =>
 IFB (decide (x7 > (0 : Int)))
 (RDI PG (loadVar 3 (Addr.add a1 1)) .i64 w1 fun x11 =>
 LETI (IntKind.u64.wrap (n + (IntKind.u64.wrap x11))) fun n1 =>
 RDB PG (loadVar 4 (Addr.add a1 2)) w1 fun x15 =>
 IFB x15
 (LETI (IntKind.u64.wrap (n1 + (1 : Int))) fun n2 =>
 LETI n2 fun x2 =>
 Q (.int .u64 x2) w1)
 (LETI n1 fun x2v1 =>
 Q (.int .u64 x2v1) w1))
 (RDB PG (loadVar 4 (Addr.add a1 2)) w1 fun x15v1 =>
 IFB x15v1
 (LETI (IntKind.u64.wrap (n + (1 : Int))) fun n3 =>
 LETI n3 fun x2v2 =>
 Q (.int .u64 x2v2) w1)
 (LETI n fun x2v3 =>
 Q (.int .u64 x2v3) w1))
theorem eq84 : ∀ (c : Int) (c1 : Int) (c2 : Bool) (c3 : Int) (c4 : Int) (c5 : Int) (c6 : Int) (c7 : Bool) (c8 : Bool) (w : World) (Q : Value → World → Prop), vcF PG TB Try.f84 .nil [(.agg #[(.int .u64 c), (.int .i64 c1), (.bool c2), (.int .i64 c3), (.int .u32 c4), (.int .i64 c5), (.int .i64 c6), (.bool c7), (.bool c8)])] w Q = N84 c c1 c2 c3 c4 c5 c6 c7 c8 w Q := by intros; kernel_rfl
theorem call84 {c : Int} {c1 : Int} {c2 : Bool} {c3 : Int} {c4 : Int} {c5 : Int} {c6 : Int} {c7 : Bool} {c8 : Bool} {w : World} {Q : Value → World → Prop} (hN : N84 c c1 c2 c3 c4 c5 c6 c7 c8 w Q) : CALL PG 84 [(.agg #[(.int .u64 c), (.int .i64 c1), (.bool c2), (.int .i64 c3), (.int .u32 c4), (.int .i64 c5), (.int .i64 c6), (.bool c7), (.bool c8)])] w Q := calls_vc tabOk Try.func84 (by rw [eq84]; exact hN)

/-- (*brougham/flight.List).Resent -/
def N116 (x : Option Addr) (fromv : Int) (fin : Bool) (flow : Int) (endv : Int) (now : Int) (w : World) (Q : Value → World → Prop) : Prop :=
 NILC x fun a16 =>
 RDL PG (loadVar 47 (Addr.add a16 1)) w fun x18 x18N x18C =>
 ∃ I : Nat → Int → World → Prop,
 (∃ m, I m (0 : Int) w) ∧
 (∀ m1 (x20 : Int) (w1 : World), I m1 x20 w1 → (IFB (decide (x20 < (x18N : Int)))
 (LETI x20 fun i =>
 NILC x fun a24 =>
 RDL PG (loadVar 47 (Addr.add a24 1)) w1 fun x26 x26N x26C =>
 IDX x26 x26N i fun a28 =>
 RDI PG (loadVar 40 (Addr.add (Addr.add a28 (Int.toNat i * 9)) 0)) .u64 w1 fun x32 =>
 IFB (x32 != fromv)
 (∃ m2, m2 < m1 ∧ I m2 (IntKind.i64.wrap (x20 + (1 : Int))) w1)
 (RDB PG (loadVar 4 (Addr.add (Addr.add a28 (Int.toNat i * 9)) 2)) w1 fun x39 =>
 IFB (!(x39 == fin))
 (∃ m3, m3 < m1 ∧ I m3 (IntKind.i64.wrap (x20 + (1 : Int))) w1)
 (RUNU PG (storeVar 3 (Addr.add (Addr.add a28 (Int.toNat i * 9)) 3) (.int .i64 flow)) w1 fun w2 =>
 RUNU PG (storeVar 44 (Addr.add (Addr.add a28 (Int.toNat i * 9)) 4) (.int .u32 endv)) w2 fun w3 =>
 RUNU PG (storeVar 3 (Addr.add (Addr.add a28 (Int.toNat i * 9)) 5) (.int .i64 now)) w3 fun w4 =>
 RUNU PG (storeVar 4 (Addr.add (Addr.add a28 (Int.toNat i * 9)) 7) (.bool false)) w4 fun w5 =>
 RUNU PG (storeVar 4 (Addr.add (Addr.add a28 (Int.toNat i * 9)) 8) (.bool false)) w5 fun w6 =>
 RDI PG (loadVar 3 (Addr.add (Addr.add a28 (Int.toNat i * 9)) 6)) .i64 w6 fun x65 =>
 RUNU PG (storeVar 3 (Addr.add (Addr.add a28 (Int.toNat i * 9)) 6) (.int .i64 (minN (IntKind.i64.wrap (x65 + (1 : Int))) (4096 : Int)))) w6 fun w7 =>
 Q (.bool true) w7)))
 (Q (.bool false) w1)))
theorem eq116 : ∀ (x : Option Addr) (fromv : Int) (fin : Bool) (flow : Int) (endv : Int) (now : Int) (w : World) (Q : Value → World → Prop), vcF PG TB Try.f116 (.s .nil (.s (.s .nil (.u (.loop [(20, 3)] .nil))) .nil)) [(.pointer x), (.int .u64 fromv), (.bool fin), (.int .i64 flow), (.int .u32 endv), (.int .i64 now)] w Q = N116 x fromv fin flow endv now w Q := by intros; kernel_rfl
theorem call116 {x : Option Addr} {fromv : Int} {fin : Bool} {flow : Int} {endv : Int} {now : Int} {w : World} {Q : Value → World → Prop} (hN : N116 x fromv fin flow endv now w Q) : CALL PG 116 [(.pointer x), (.int .u64 fromv), (.bool fin), (.int .i64 flow), (.int .u32 endv), (.int .i64 now)] w Q := calls_vc tabOk Try.func116 (by rw [eq116]; exact hN)

end Go.Br
