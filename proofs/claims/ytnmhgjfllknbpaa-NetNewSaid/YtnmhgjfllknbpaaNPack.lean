/- What the code of some functions says, as the core reads it; each reading is checked by the kernel. -/
import Derived.Test.YtnmhgjfllknbpaaBrSeat
set_option linter.unusedVariables false
set_option maxRecDepth 100000
namespace Go.Br
open Go Go.Proofs

/-- brougham/pack.Put -/
def N45 (b : Option Addr) (bN bC : Nat) (l : Option Addr) (lN lC : Nat) (w : World) (Q : Value → World → Prop) : Prop :=
 RUNL PG (Builtin.append_ #[80, 80] 80 #[(.slice none 0 0), (.slice b bN bC)]) w fun x10 x10N x10C w1 =>
 ∃ I : Nat → Option Addr → Nat → Nat → Int → World → Prop,
 (∃ m, I m x10 x10N x10C (0 : Int) w1) ∧
 (∀ m1 (out : Option Addr) (outN outC : Nat) (x13 : Int) (w2 : World), I m1 out outN outC x13 w2 → (IFB (decide (x13 < (lN : Int)))
 (IDX l lN x13 fun a15 =>
 RD PG (loadVar 127 (Addr.add a15 (Int.toNat x13 * 2))) w2 fun v =>
 ∃ x16 : Int, ∃ x16v1 : Int, v = (.agg #[(.int .i64 x16), (.int .u64 x16v1)]) ∧
 (RUNA PG (Instr.alloc 127 true (.tuple #[])) w2 fun a7 w3 =>
 RUNU PG (storeVar 127 a7 (.agg #[(.int .i64 x16), (.int .u64 x16v1)])) w3 fun w4 =>
 RDI PG (loadVar 3 (Addr.add a7 0)) .i64 w4 fun x18 =>
 IFB (decide (x18 < (1 : Int)))
 (∃ m2, m2 < m1 ∧ I m2 out outN outC (IntKind.i64.wrap (x13 + (1 : Int))) w4)
 (RDI PG (loadVar 3 (Addr.add a7 0)) .i64 w4 fun x22 =>
 IFB (decide (x22 > (8 : Int)))
 (∃ m3, m3 < m1 ∧ I m3 out outN outC (IntKind.i64.wrap (x13 + (1 : Int))) w4)
 (RDI PG (loadVar 3 (Addr.add a7 0)) .i64 w4 fun x26 =>
 LETI (IntKind.i64.wrap (x26 - (1 : Int))) fun i =>
 ∃ I1 : Nat → Option Addr → Nat → Nat → Int → World → Prop,
 (∃ m4, I1 m4 out outN outC i w4) ∧
 (∀ m5 (out1 : Option Addr) (outN1 outC1 : Nat) (i1 : Int) (w5 : World), I1 m5 out1 outN1 outC1 i1 w5 → (IFB (decide (i1 ≥ (0 : Int)))
 (RDI PG (loadVar 25 (Addr.add a7 1)) .u64 w5 fun x34 =>
 NEED (0 ≤ (IntKind.i64.wrap ((8 : Int) * i1)))
 (RUNL PG (Instr.buildSlice 80 1 #[(0, (.int .u8 (IntKind.u8.wrap (shrN .u64 x34 (IntKind.i64.wrap ((8 : Int) * i1))))))]) w5 fun x39 x39N x39C w6 =>
 RUNL PG (Builtin.append_ #[80, 80] 80 #[(.slice out1 outN1 outC1), (.slice x39 x39N x39C)]) w6 fun x40 x40N x40C w7 =>
 LETI (IntKind.i64.wrap (i1 - (1 : Int))) fun i2 =>
 ∃ m6, m6 < m5 ∧ I1 m6 x40 x40N x40C i2 w7))
 (∃ m7, m7 < m1 ∧ I m7 out1 outN1 outC1 (IntKind.i64.wrap (x13 + (1 : Int))) w5)))))))
 (Q (.slice out outN outC) w2)))
theorem eq45 : ∀ (b : Option Addr) (bN bC : Nat) (l : Option Addr) (lN lC : Nat) (w : World) (Q : Value → World → Prop), vcF PG TB Try.f45 (.s .nil (.s .nil (.s (.s .nil (.u (.loop [(5, 80), (13, 3)] (.s .nil (.s .nil (.s (.u (.s .nil (.s .nil (.s .nil (.u (.loop [(5, 80), (8, 3)] .nil)))))) .nil)))))) .nil))) [(.slice b bN bC), (.slice l lN lC)] w Q = N45 b bN bC l lN lC w Q := by intros; kernel_rfl
theorem call45 {b : Option Addr} {bN bC : Nat} {l : Option Addr} {lN lC : Nat} {w : World} {Q : Value → World → Prop} (hN : N45 b bN bC l lN lC w Q) : CALL PG 45 [(.slice b bN bC), (.slice l lN lC)] w Q := calls_vc tabOk Try.func45 (by rw [eq45]; exact hN)

/-- brougham/pack.Q -/
def N46 (n : Int) (w : World) (Q : Value → World → Prop) : Prop :=
 RUNA PG (Instr.alloc 127 true (.tuple #[])) w fun a2 w1 =>
 RD PG (Instr.build 127 #[(0, (.int .i64 (8 : Int))), (1, (.int .u64 n))]) w1 fun v =>
 ∃ x4 : Int, ∃ x4v1 : Int, v = (.agg #[(.int .i64 x4), (.int .u64 x4v1)]) ∧
 (RUNU PG (storeVar 127 a2 (.agg #[(.int .i64 x4), (.int .u64 x4v1)])) w1 fun w2 =>
 RD PG (loadVar 127 a2) w2 fun v2 =>
 ∃ r : Int, ∃ r1 : Int, v2 = (.agg #[(.int .i64 r), (.int .u64 r1)]) ∧
 (Q (.agg #[(.int .i64 r), (.int .u64 r1)]) w2))
theorem eq46 : ∀ (n : Int) (w : World) (Q : Value → World → Prop), vcF PG TB Try.f46 .nil [(.int .u64 n)] w Q = N46 n w Q := by intros; kernel_rfl
theorem call46 {n : Int} {w : World} {Q : Value → World → Prop} (hN : N46 n w Q) : CALL PG 46 [(.int .u64 n)] w Q := calls_vc tabOk Try.func46 (by rw [eq46]; exact hN)

/-- brougham/pack.W -/
def N66 (n : Int) (w : World) (Q : Value → World → Prop) : Prop :=
 RUNA PG (Instr.alloc 127 true (.tuple #[])) w fun a2 w1 =>
 RD PG (Instr.build 127 #[(0, (.int .i64 (4 : Int))), (1, (.int .u64 (IntKind.u64.wrap n)))]) w1 fun v =>
 ∃ x5 : Int, ∃ x5v1 : Int, v = (.agg #[(.int .i64 x5), (.int .u64 x5v1)]) ∧
 (RUNU PG (storeVar 127 a2 (.agg #[(.int .i64 x5), (.int .u64 x5v1)])) w1 fun w2 =>
 RD PG (loadVar 127 a2) w2 fun v2 =>
 ∃ r : Int, ∃ r1 : Int, v2 = (.agg #[(.int .i64 r), (.int .u64 r1)]) ∧
 (Q (.agg #[(.int .i64 r), (.int .u64 r1)]) w2))
theorem eq66 : ∀ (n : Int) (w : World) (Q : Value → World → Prop), vcF PG TB Try.f66 .nil [(.int .u32 n)] w Q = N66 n w Q := by intros; kernel_rfl
theorem call66 {n : Int} {w : World} {Q : Value → World → Prop} (hN : N66 n w Q) : CALL PG 66 [(.int .u32 n)] w Q := calls_vc tabOk Try.func66 (by rw [eq66]; exact hN)

/-- brougham/pack.B -/
def N67 (n : Int) (w : World) (Q : Value → World → Prop) : Prop :=
 RUNA PG (Instr.alloc 127 true (.tuple #[])) w fun a2 w1 =>
 RD PG (Instr.build 127 #[(0, (.int .i64 (1 : Int))), (1, (.int .u64 (IntKind.u64.wrap n)))]) w1 fun v =>
 ∃ x5 : Int, ∃ x5v1 : Int, v = (.agg #[(.int .i64 x5), (.int .u64 x5v1)]) ∧
 (RUNU PG (storeVar 127 a2 (.agg #[(.int .i64 x5), (.int .u64 x5v1)])) w1 fun w2 =>
 RD PG (loadVar 127 a2) w2 fun v2 =>
 ∃ r : Int, ∃ r1 : Int, v2 = (.agg #[(.int .i64 r), (.int .u64 r1)]) ∧
 (Q (.agg #[(.int .i64 r), (.int .u64 r1)]) w2))
theorem eq67 : ∀ (n : Int) (w : World) (Q : Value → World → Prop), vcF PG TB Try.f67 .nil [(.int .u8 n)] w Q = N67 n w Q := by intros; kernel_rfl
theorem call67 {n : Int} {w : World} {Q : Value → World → Prop} (hN : N67 n w Q) : CALL PG 67 [(.int .u8 n)] w Q := calls_vc tabOk Try.func67 (by rw [eq67]; exact hN)

/-- brougham/pack.Flag -/
def N68 (isv : Bool) (w : World) (Q : Value → World → Prop) : Prop :=
 RUNA PG (Instr.alloc 127 true (.tuple #[])) w fun a2 w1 =>
 IFB isv
 (CALL PG 67 [(.int .u8 (1 : Int))] w1 fun v w2 =>
 ∃ x4 : Int, ∃ x4v1 : Int, v = (.agg #[(.int .i64 x4), (.int .u64 x4v1)]) ∧
 (RUNU PG (storeVar 127 a2 (.agg #[(.int .i64 x4), (.int .u64 x4v1)])) w2 fun w3 =>
 RD PG (loadVar 127 a2) w3 fun v2 =>
 ∃ r : Int, ∃ r1 : Int, v2 = (.agg #[(.int .i64 r), (.int .u64 r1)]) ∧
 (Q (.agg #[(.int .i64 r), (.int .u64 r1)]) w3)))
 (CALL PG 67 [(.int .u8 (0 : Int))] w1 fun v3 w4 =>
 ∃ x5 : Int, ∃ x5v1 : Int, v3 = (.agg #[(.int .i64 x5), (.int .u64 x5v1)]) ∧
 (RUNU PG (storeVar 127 a2 (.agg #[(.int .i64 x5), (.int .u64 x5v1)])) w4 fun w5 =>
 RD PG (loadVar 127 a2) w5 fun v5 =>
 ∃ r2 : Int, ∃ r3 : Int, v5 = (.agg #[(.int .i64 r2), (.int .u64 r3)]) ∧
 (Q (.agg #[(.int .i64 r2), (.int .u64 r3)]) w5)))
theorem eq68 : ∀ (isv : Bool) (w : World) (Q : Value → World → Prop), vcF PG TB Try.f68 .nil [(.bool isv)] w Q = N68 isv w Q := by intros; kernel_rfl
theorem call68 {isv : Bool} {w : World} {Q : Value → World → Prop} (hN : N68 isv w Q) : CALL PG 68 [(.bool isv)] w Q := calls_vc tabOk Try.func68 (by rw [eq68]; exact hN)

/-- brougham/pack.H -/
def N76 (n : Int) (w : World) (Q : Value → World → Prop) : Prop :=
 RUNA PG (Instr.alloc 127 true (.tuple #[])) w fun a2 w1 =>
 RD PG (Instr.build 127 #[(0, (.int .i64 (2 : Int))), (1, (.int .u64 (IntKind.u64.wrap n)))]) w1 fun v =>
 ∃ x5 : Int, ∃ x5v1 : Int, v = (.agg #[(.int .i64 x5), (.int .u64 x5v1)]) ∧
 (RUNU PG (storeVar 127 a2 (.agg #[(.int .i64 x5), (.int .u64 x5v1)])) w1 fun w2 =>
 RD PG (loadVar 127 a2) w2 fun v2 =>
 ∃ r : Int, ∃ r1 : Int, v2 = (.agg #[(.int .i64 r), (.int .u64 r1)]) ∧
 (Q (.agg #[(.int .i64 r), (.int .u64 r1)]) w2))
theorem eq76 : ∀ (n : Int) (w : World) (Q : Value → World → Prop), vcF PG TB Try.f76 .nil [(.int .u16 n)] w Q = N76 n w Q := by intros; kernel_rfl
theorem call76 {n : Int} {w : World} {Q : Value → World → Prop} (hN : N76 n w Q) : CALL PG 76 [(.int .u16 n)] w Q := calls_vc tabOk Try.func76 (by rw [eq76]; exact hN)

end Go.Br
