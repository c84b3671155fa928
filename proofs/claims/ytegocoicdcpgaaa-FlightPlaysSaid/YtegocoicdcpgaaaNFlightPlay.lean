/- What the code of some functions says, as the core reads it; each reading is checked by the kernel. -/
import Derived.Test.YtegocoicdcpgaaaBrSeat
set_option linter.unusedVariables false
set_option maxRecDepth 100000
namespace Go.Br
open Go Go.Proofs

/-- (*brougham/flight.List).Word -/
def N114 (x : Option Addr) (flow : Int) (ack : Int) (w : World) (Q : Value → World → Prop) : Prop :=
 NILC x fun a11 =>
 RDL PG (loadVar 47 (Addr.add a11 1)) w fun x13 x13N x13C =>
 ∃ I : Nat → Option Addr → Nat → Nat → Int → World → Prop,
 (∃ m, I m none 0 0 (0 : Int) w) ∧
 (∀ m1 (out : Option Addr) (outN outC : Nat) (x15 : Int) (w1 : World), I m1 out outN outC x15 w1 → (IFB (decide (x15 < (x13N : Int)))
 (LETI x15 fun i =>
 NILC x fun a19 =>
 RDL PG (loadVar 47 (Addr.add a19 1)) w1 fun x21 x21N x21C =>
 IDX x21 x21N i fun a23 =>
 RDI PG (loadVar 3 (Addr.add (Addr.add a23 (Int.toNat i * 9)) 3)) .i64 w1 fun x27 =>
 IFB (x27 != flow)
 (∃ m2, m2 < m1 ∧ I m2 out outN outC (IntKind.i64.wrap (x15 + (1 : Int))) w1)
 (RDI PG (loadVar 3 (Addr.add (Addr.add a23 (Int.toNat i * 9)) 1)) .i64 w1 fun x34 =>
 IFB (decide (x34 < (1 : Int)))
 (∃ m3, m3 < m1 ∧ I m3 out outN outC (IntKind.i64.wrap (x15 + (1 : Int))) w1)
 (RDB PG (loadVar 4 (Addr.add (Addr.add a23 (Int.toNat i * 9)) 7)) w1 fun x41 =>
 IFB x41
 (∃ m4, m4 < m1 ∧ I m4 out outN outC (IntKind.i64.wrap (x15 + (1 : Int))) w1)
 (RDB PG (loadVar 4 (Addr.add (Addr.add a23 (Int.toNat i * 9)) 8)) w1 fun x47 =>
 IFB x47
 (∃ m5, m5 < m1 ∧ I m5 out outN outC (IntKind.i64.wrap (x15 + (1 : Int))) w1)
 (RDI PG (loadVar 44 (Addr.add (Addr.add a23 (Int.toNat i * 9)) 4)) .u32 w1 fun x54 =>
 CALL PG 124 [(.int .u32 ack), (.int .u32 x54)] w1 fun v w2 =>
 ∃ x55 : Bool, v = (.bool x55) ∧
 (IFB x55
 (∃ m6, m6 < m1 ∧ I m6 out outN outC (IntKind.i64.wrap (x15 + (1 : Int))) w2)
 (RUNU PG (storeVar 4 (Addr.add (Addr.add a23 (Int.toNat i * 9)) 7) (.bool true)) w2 fun w3 =>
 RD PG (loadVar 46 (Addr.add a23 (Int.toNat i * 9))) w3 fun v1 =>
 ∃ x63 : Int, ∃ x63v1 : Int, ∃ x63v2 : Bool, ∃ x63v3 : Int, ∃ x63v4 : Int, ∃ x63v5 : Int, ∃ x63v6 : Int, ∃ x63v7 : Bool, ∃ x63v8 : Bool, v1 = (.agg #[(.int .u64 x63), (.int .i64 x63v1), (.bool x63v2), (.int .i64 x63v3), (.int .u32 x63v4), (.int .i64 x63v5), (.int .i64 x63v6), (.bool x63v7), (.bool x63v8)]) ∧
 (RUNL PG (Instr.buildSlice 47 1 #[(0, (.agg #[(.int .u64 x63), (.int .i64 x63v1), (.bool x63v2), (.int .i64 x63v3), (.int .u32 x63v4), (.int .i64 x63v5), (.int .i64 x63v6), (.bool x63v7), (.bool x63v8)]))]) w3 fun x64 x64N x64C w4 =>
 RUNL PG (Builtin.append_ #[47, 47] 47 #[(.slice out outN outC), (.slice x64 x64N x64C)]) w4 fun x65 x65N x65C w5 =>
 ∃ m7, m7 < m1 ∧ I m7 x65 x65N x65C (IntKind.i64.wrap (x15 + (1 : Int))) w5))))))))
 (Q (.slice out outN outC) w1)))
theorem eq114 : ∀ (x : Option Addr) (flow : Int) (ack : Int) (w : World) (Q : Value → World → Prop), vcF PG TB Try.f114 (.s .nil (.s .nil (.s (.s .nil (.u (.loop [(7, 47), (15, 3)] .nil))) .nil))) [(.pointer x), (.int .i64 flow), (.int .u32 ack)] w Q = N114 x flow ack w Q := by intros; kernel_rfl
theorem call114 {x : Option Addr} {flow : Int} {ack : Int} {w : World} {Q : Value → World → Prop} (hN : N114 x flow ack w Q) : CALL PG 114 [(.pointer x), (.int .i64 flow), (.int .u32 ack)] w Q := calls_vc tabOk Try.func114 (by rw [eq114]; exact hN)

/-- brougham/serial.Less -/
def N124 (a : Int) (b : Int) (w : World) (Q : Value → World → Prop) : Prop :=
 LETB (decide ((IntKind.i32.wrap (IntKind.u32.wrap (a - b))) < (0 : Int))) fun x4 =>
 Q (.bool x4) w
theorem eq124 : ∀ (a : Int) (b : Int) (w : World) (Q : Value → World → Prop), vcF PG TB Try.f124 .nil [(.int .u32 a), (.int .u32 b)] w Q = N124 a b w Q := by intros; kernel_rfl
theorem call124 {a : Int} {b : Int} {w : World} {Q : Value → World → Prop} (hN : N124 a b w Q) : CALL PG 124 [(.int .u32 a), (.int .u32 b)] w Q := calls_vc tabOk Try.func124 (by rw [eq124]; exact hN)

end Go.Br
