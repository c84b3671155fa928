/- What the code of some functions says, as the core reads it; each reading is checked by the kernel. -/
import Derived.Test.YtggajodoaooafaaBrSeat
set_option linter.unusedVariables false
set_option maxRecDepth 100000
namespace Go.Br
open Go Go.Proofs

/-- brougham/pack.Put -/
def N112 (b : Option Addr) (bN bC : Nat) (l : Option Addr) (lN lC : Nat) (w : World) (Q : Value → World → Prop) : Prop :=
 RUNL PG (Builtin.append_ #[30, 30] 30 #[(.slice none 0 0), (.slice b bN bC)]) w fun x10 x10N x10C w1 =>
 ∃ I : Nat → Option Addr → Nat → Nat → Int → World → Prop,
 (∃ m, I m x10 x10N x10C (0 : Int) w1) ∧
 (∀ m1 (out : Option Addr) (outN outC : Nat) (x13 : Int) (w2 : World), I m1 out outN outC x13 w2 → (IFB (decide (x13 < (lN : Int)))
 (IDX l lN x13 fun a15 =>
 RD PG (loadVar 203 (Addr.add a15 (Int.toNat x13 * 2))) w2 fun v =>
 ∃ x16 : Int, ∃ x16v1 : Int, v = (.agg #[(.int .i64 x16), (.int .u64 x16v1)]) ∧
 (RUNA PG (Instr.alloc 203 true (.tuple #[])) w2 fun a7 w3 =>
 RUNU PG (storeVar 203 a7 (.agg #[(.int .i64 x16), (.int .u64 x16v1)])) w3 fun w4 =>
 RDI PG (loadVar 3 (Addr.add a7 0)) .i64 w4 fun x18 =>
 IFB (decide (x18 < (1 : Int)))
 (∃ m2, m2 < m1 ∧ I m2 out outN outC (IntKind.i64.wrap (x13 + (1 : Int))) w4)
 (RDI PG (loadVar 3 (Addr.add a7 0)) .i64 w4 fun x22 =>
 IFB (decide (x22 > (8 : Int)))
 (∃ m3, m3 < m1 ∧ I m3 out outN outC (IntKind.i64.wrap (x13 + (1 : Int))) w4)
 (RDI PG (loadVar 3 (Addr.add a7 0)) .i64 w4 fun x26 =>
 LETI (IntKind.i64.wrap (x26 - (1 : Int))) fun i =>
 ∃ I1 : Nat → Option Addr → Nat → Nat → Int → World → Prop,
 (∃ m4, I1 m4 out outN outC i w4) ∧
 (∀ m5 (out1 : Option Addr) (outN1 outC1 : Nat) (i1 : Int) (w5 : World), I1 m5 out1 outN1 outC1 i1 w5 → (IFB (decide (i1 ≥ (0 : Int)))
 (RDI PG (loadVar 56 (Addr.add a7 1)) .u64 w5 fun x34 =>
 NEED (0 ≤ (IntKind.i64.wrap ((8 : Int) * i1)))
 (RUNL PG (Instr.buildSlice 30 1 #[(0, (.int .u8 (IntKind.u8.wrap (shrN .u64 x34 (IntKind.i64.wrap ((8 : Int) * i1))))))]) w5 fun x39 x39N x39C w6 =>
 RUNL PG (Builtin.append_ #[30, 30] 30 #[(.slice out1 outN1 outC1), (.slice x39 x39N x39C)]) w6 fun x40 x40N x40C w7 =>
 LETI (IntKind.i64.wrap (i1 - (1 : Int))) fun i2 =>
 ∃ m6, m6 < m5 ∧ I1 m6 x40 x40N x40C i2 w7))
 (∃ m7, m7 < m1 ∧ I m7 out1 outN1 outC1 (IntKind.i64.wrap (x13 + (1 : Int))) w5)))))))
 (Q (.slice out outN outC) w2)))
theorem eq112 : ∀ (b : Option Addr) (bN bC : Nat) (l : Option Addr) (lN lC : Nat) (w : World) (Q : Value → World → Prop), vcF PG TB Try.f112 (.s .nil (.s .nil (.s (.s .nil (.u (.loop [(5, 30), (13, 3)] (.s .nil (.s .nil (.s (.u (.s .nil (.s .nil (.s .nil (.u (.loop [(5, 30), (8, 3)] .nil)))))) .nil)))))) .nil))) [(.slice b bN bC), (.slice l lN lC)] w Q = N112 b bN bC l lN lC w Q := by intros; kernel_rfl
theorem call112 {b : Option Addr} {bN bC : Nat} {l : Option Addr} {lN lC : Nat} {w : World} {Q : Value → World → Prop} (hN : N112 b bN bC l lN lC w Q) : CALL PG 112 [(.slice b bN bC), (.slice l lN lC)] w Q := calls_vc tabOk Try.func112 (by rw [eq112]; exact hN)

/-- brougham/pack.Q -/
def N113 (n : Int) (w : World) (Q : Value → World → Prop) : Prop :=
 RUNA PG (Instr.alloc 203 true (.tuple #[])) w fun a2 w1 =>
 RD PG (Instr.build 203 #[(0, (.int .i64 (8 : Int))), (1, (.int .u64 n))]) w1 fun v =>
 ∃ x4 : Int, ∃ x4v1 : Int, v = (.agg #[(.int .i64 x4), (.int .u64 x4v1)]) ∧
 (RUNU PG (storeVar 203 a2 (.agg #[(.int .i64 x4), (.int .u64 x4v1)])) w1 fun w2 =>
 RD PG (loadVar 203 a2) w2 fun v2 =>
 ∃ r : Int, ∃ r1 : Int, v2 = (.agg #[(.int .i64 r), (.int .u64 r1)]) ∧
 (Q (.agg #[(.int .i64 r), (.int .u64 r1)]) w2))
theorem eq113 : ∀ (n : Int) (w : World) (Q : Value → World → Prop), vcF PG TB Try.f113 .nil [(.int .u64 n)] w Q = N113 n w Q := by intros; kernel_rfl
theorem call113 {n : Int} {w : World} {Q : Value → World → Prop} (hN : N113 n w Q) : CALL PG 113 [(.int .u64 n)] w Q := calls_vc tabOk Try.func113 (by rw [eq113]; exact hN)

/-- brougham/pack.B -/
def N114 (n : Int) (w : World) (Q : Value → World → Prop) : Prop :=
 RUNA PG (Instr.alloc 203 true (.tuple #[])) w fun a2 w1 =>
 RD PG (Instr.build 203 #[(0, (.int .i64 (1 : Int))), (1, (.int .u64 (IntKind.u64.wrap n)))]) w1 fun v =>
 ∃ x5 : Int, ∃ x5v1 : Int, v = (.agg #[(.int .i64 x5), (.int .u64 x5v1)]) ∧
 (RUNU PG (storeVar 203 a2 (.agg #[(.int .i64 x5), (.int .u64 x5v1)])) w1 fun w2 =>
 RD PG (loadVar 203 a2) w2 fun v2 =>
 ∃ r : Int, ∃ r1 : Int, v2 = (.agg #[(.int .i64 r), (.int .u64 r1)]) ∧
 (Q (.agg #[(.int .i64 r), (.int .u64 r1)]) w2))
theorem eq114 : ∀ (n : Int) (w : World) (Q : Value → World → Prop), vcF PG TB Try.f114 .nil [(.int .u8 n)] w Q = N114 n w Q := by intros; kernel_rfl
theorem call114 {n : Int} {w : World} {Q : Value → World → Prop} (hN : N114 n w Q) : CALL PG 114 [(.int .u8 n)] w Q := calls_vc tabOk Try.func114 (by rw [eq114]; exact hN)

/-- brougham/opt.bits -/
def N115 (a : Bool) (b : Bool) (w : World) (Q : Value → World → Prop) : Prop :=
 IFB a
 (LETI (IntKind.u8.wrap (BitVec.ofInt (IntKind.u8.bits) (0 : Int) ||| BitVec.ofInt (IntKind.u8.bits) (1 : Int)).toNat) fun n =>
 IFB b
 (LETI (IntKind.u8.wrap (BitVec.ofInt (IntKind.u8.bits) n ||| BitVec.ofInt (IntKind.u8.bits) (2 : Int)).toNat) fun n1 =>
 LETI n1 fun x4 =>
 Q (.int .u8 x4) w)
 (LETI n fun x4v1 =>
 Q (.int .u8 x4v1) w))
 (IFB b
 (LETI (IntKind.u8.wrap (BitVec.ofInt (IntKind.u8.bits) (0 : Int) ||| BitVec.ofInt (IntKind.u8.bits) (2 : Int)).toNat) fun n2 =>
 LETI n2 fun x4v2 =>
 Q (.int .u8 x4v2) w)
 (LETI (0 : Int) fun x4v3 =>
 Q (.int .u8 x4v3) w))
theorem eq115 : ∀ (a : Bool) (b : Bool) (w : World) (Q : Value → World → Prop), vcF PG TB Try.f115 .nil [(.bool a), (.bool b)] w Q = N115 a b w Q := by intros; kernel_rfl
theorem call115 {a : Bool} {b : Bool} {w : World} {Q : Value → World → Prop} (hN : N115 a b w Q) : CALL PG 115 [(.bool a), (.bool b)] w Q := calls_vc tabOk Try.func115 (by rw [eq115]; exact hN)

/-- brougham/pack.W -/
def N116 (n : Int) (w : World) (Q : Value → World → Prop) : Prop :=
 RUNA PG (Instr.alloc 203 true (.tuple #[])) w fun a2 w1 =>
 RD PG (Instr.build 203 #[(0, (.int .i64 (4 : Int))), (1, (.int .u64 (IntKind.u64.wrap n)))]) w1 fun v =>
 ∃ x5 : Int, ∃ x5v1 : Int, v = (.agg #[(.int .i64 x5), (.int .u64 x5v1)]) ∧
 (RUNU PG (storeVar 203 a2 (.agg #[(.int .i64 x5), (.int .u64 x5v1)])) w1 fun w2 =>
 RD PG (loadVar 203 a2) w2 fun v2 =>
 ∃ r : Int, ∃ r1 : Int, v2 = (.agg #[(.int .i64 r), (.int .u64 r1)]) ∧
 (Q (.agg #[(.int .i64 r), (.int .u64 r1)]) w2))
theorem eq116 : ∀ (n : Int) (w : World) (Q : Value → World → Prop), vcF PG TB Try.f116 .nil [(.int .u32 n)] w Q = N116 n w Q := by intros; kernel_rfl
theorem call116 {n : Int} {w : World} {Q : Value → World → Prop} (hN : N116 n w Q) : CALL PG 116 [(.int .u32 n)] w Q := calls_vc tabOk Try.func116 (by rw [eq116]; exact hN)

/-- brougham/pack.Flag -/
def N117 (isv : Bool) (w : World) (Q : Value → World → Prop) : Prop :=
 RUNA PG (Instr.alloc 203 true (.tuple #[])) w fun a2 w1 =>
 IFB isv
 (CALL PG 114 [(.int .u8 (1 : Int))] w1 fun v w2 =>
 ∃ x4 : Int, ∃ x4v1 : Int, v = (.agg #[(.int .i64 x4), (.int .u64 x4v1)]) ∧
 (RUNU PG (storeVar 203 a2 (.agg #[(.int .i64 x4), (.int .u64 x4v1)])) w2 fun w3 =>
 RD PG (loadVar 203 a2) w3 fun v2 =>
 ∃ r : Int, ∃ r1 : Int, v2 = (.agg #[(.int .i64 r), (.int .u64 r1)]) ∧
 (Q (.agg #[(.int .i64 r), (.int .u64 r1)]) w3)))
 (CALL PG 114 [(.int .u8 (0 : Int))] w1 fun v3 w4 =>
 ∃ x5 : Int, ∃ x5v1 : Int, v3 = (.agg #[(.int .i64 x5), (.int .u64 x5v1)]) ∧
 (RUNU PG (storeVar 203 a2 (.agg #[(.int .i64 x5), (.int .u64 x5v1)])) w4 fun w5 =>
 RD PG (loadVar 203 a2) w5 fun v5 =>
 ∃ r2 : Int, ∃ r3 : Int, v5 = (.agg #[(.int .i64 r2), (.int .u64 r3)]) ∧
 (Q (.agg #[(.int .i64 r2), (.int .u64 r3)]) w5)))
theorem eq117 : ∀ (isv : Bool) (w : World) (Q : Value → World → Prop), vcF PG TB Try.f117 .nil [(.bool isv)] w Q = N117 isv w Q := by intros; kernel_rfl
theorem call117 {isv : Bool} {w : World} {Q : Value → World → Prop} (hN : N117 isv w Q) : CALL PG 117 [(.bool isv)] w Q := calls_vc tabOk Try.func117 (by rw [eq117]; exact hN)

/-- brougham/broughamref02.Put -/
def N118 (b : Option Addr) (bN bC : Nat) (n : Int) (bytes : Int) (w : World) (Q : Value → World → Prop) : Prop :=
 IFB (decide (bytes < (1 : Int)))
 (Q (.slice b bN bC) w)
 (IFB (decide (bytes > (8 : Int)))
 (Q (.slice b bN bC) w)
 (NEED ((256 : Int) ≠ 0)
 (CALL PG 118 [(.slice b bN bC), (.int .u64 (IntKind.u64.wrap (Int.tdiv n (256 : Int)))), (.int .i64 (IntKind.i64.wrap (bytes - (1 : Int))))] w fun v w1 =>
 ∃ (x19 : Option Addr) (x19N x19C : Nat), v = (.slice x19 x19N x19C) ∧
 (NEED ((256 : Int) ≠ 0)
 (RUNL PG (Instr.buildSlice 30 1 #[(0, (.int .u8 (IntKind.u8.wrap (Int.tmod n (256 : Int)))))]) w1 fun x24 x24N x24C w2 =>
 RUNL PG (Builtin.append_ #[30, 30] 30 #[(.slice x19 x19N x19C), (.slice x24 x24N x24C)]) w2 fun x25 x25N x25C w3 =>
 Q (.slice x25 x25N x25C) w3)))))
theorem eq118 : ∀ (b : Option Addr) (bN bC : Nat) (n : Int) (bytes : Int) (w : World) (Q : Value → World → Prop), vcF PG TB Try.f118 .nil [(.slice b bN bC), (.int .u64 n), (.int .i64 bytes)] w Q = N118 b bN bC n bytes w Q := by intros; kernel_rfl
theorem call118 {b : Option Addr} {bN bC : Nat} {n : Int} {bytes : Int} {w : World} {Q : Value → World → Prop} (hN : N118 b bN bC n bytes w Q) : CALL PG 118 [(.slice b bN bC), (.int .u64 n), (.int .i64 bytes)] w Q := calls_vc tabOk Try.func118 (by rw [eq118]; exact hN)

/-- brougham/broughamref08.bit -/
def N119 (isv : Bool) (w : World) (Q : Value → World → Prop) : Prop :=
 IFB isv
 (Q (.int .u64 (1 : Int)) w)
 (Q (.int .u64 (0 : Int)) w)
theorem eq119 : ∀ (isv : Bool) (w : World) (Q : Value → World → Prop), vcF PG TB Try.f119 .nil [(.bool isv)] w Q = N119 isv w Q := by intros; kernel_rfl
theorem call119 {isv : Bool} {w : World} {Q : Value → World → Prop} (hN : N119 isv w Q) : CALL PG 119 [(.bool isv)] w Q := calls_vc tabOk Try.func119 (by rw [eq119]; exact hN)

end Go.Br
