/- What the code of some functions says, as the core reads it; each reading is checked by the kernel. -/
import Derived.Test.YtggcccfdckeooaaGreatBrSeat
set_option linter.unusedVariables false
set_option maxRecDepth 100000
namespace Go.Br
open Go Go.Proofs

/-- brougham/pack.Put -/
def N42 (b : Option Addr) (bN bC : Nat) (l : Option Addr) (lN lC : Nat) (w : World) (Q : Value → World → Prop) : Prop :=
 RUNL PG (Builtin.append_ #[64, 64] 64 #[(.slice none 0 0), (.slice b bN bC)]) w fun x10 x10N x10C w1 =>
 ∃ I : Nat → Option Addr → Nat → Nat → Int → World → Prop,
 (∃ m, I m x10 x10N x10C (0 : Int) w1) ∧
 (∀ m1 (out : Option Addr) (outN outC : Nat) (x13 : Int) (w2 : World), I m1 out outN outC x13 w2 → (IFB (decide (x13 < (lN : Int)))
 (IDX l lN x13 fun a15 =>
 RD PG (loadVar 110 (Addr.add a15 (Int.toNat x13 * 2))) w2 fun v =>
 ∃ x16 : Int, ∃ x16v1 : Int, v = (.agg #[(.int .i64 x16), (.int .u64 x16v1)]) ∧
 (RUNA PG (Instr.alloc 110 true (.tuple #[])) w2 fun a7 w3 =>
 RUNU PG (storeVar 110 a7 (.agg #[(.int .i64 x16), (.int .u64 x16v1)])) w3 fun w4 =>
 RDI PG (loadVar 3 (Addr.add a7 0)) .i64 w4 fun x18 =>
 IFB (decide (x18 < (1 : Int)))
 (∃ m2, m2 < m1 ∧ I m2 out outN outC (IntKind.i64.wrap (x13 + (1 : Int))) w4)
 (RDI PG (loadVar 3 (Addr.add a7 0)) .i64 w4 fun x22 =>
 IFB (decide (x22 > (8 : Int)))
 (∃ m3, m3 < m1 ∧ I m3 out outN outC (IntKind.i64.wrap (x13 + (1 : Int))) w4)
 (RDI PG (loadVar 3 (Addr.add a7 0)) .i64 w4 fun x26 =>
 LETI (IntKind.i64.wrap (x26 - (1 : Int))) fun i =>
 ∃ I1 : Nat → Option Addr → Nat → Nat → Int → World → Prop,
 (∃ m4, I1 m4 out outN outC i w4) ∧
 (∀ m5 (out1 : Option Addr) (outN1 outC1 : Nat) (i1 : Int) (w5 : World), I1 m5 out1 outN1 outC1 i1 w5 → (IFB (decide (i1 ≥ (0 : Int)))
 (RDI PG (loadVar 25 (Addr.add a7 1)) .u64 w5 fun x34 =>
 NEED (0 ≤ (IntKind.i64.wrap ((8 : Int) * i1)))
 (RUNL PG (Instr.buildSlice 64 1 #[(0, (.int .u8 (IntKind.u8.wrap (shrN .u64 x34 (IntKind.i64.wrap ((8 : Int) * i1))))))]) w5 fun x39 x39N x39C w6 =>
 RUNL PG (Builtin.append_ #[64, 64] 64 #[(.slice out1 outN1 outC1), (.slice x39 x39N x39C)]) w6 fun x40 x40N x40C w7 =>
 LETI (IntKind.i64.wrap (i1 - (1 : Int))) fun i2 =>
 ∃ m6, m6 < m5 ∧ I1 m6 x40 x40N x40C i2 w7))
 (∃ m7, m7 < m1 ∧ I m7 out1 outN1 outC1 (IntKind.i64.wrap (x13 + (1 : Int))) w5)))))))
 (Q (.slice out outN outC) w2)))
theorem eq42 : ∀ (b : Option Addr) (bN bC : Nat) (l : Option Addr) (lN lC : Nat) (w : World) (Q : Value → World → Prop), vcF PG TB Tryz.f42 (.s .nil (.s .nil (.s (.s .nil (.u (.loop [(5, 64), (13, 3)] (.s .nil (.s .nil (.s (.u (.s .nil (.s .nil (.s .nil (.u (.loop [(5, 64), (8, 3)] .nil)))))) .nil)))))) .nil))) [(.slice b bN bC), (.slice l lN lC)] w Q = N42 b bN bC l lN lC w Q := by intros; kernel_rfl
theorem call42 {b : Option Addr} {bN bC : Nat} {l : Option Addr} {lN lC : Nat} {w : World} {Q : Value → World → Prop} (hN : N42 b bN bC l lN lC w Q) : CALL PG 42 [(.slice b bN bC), (.slice l lN lC)] w Q := calls_vc tabOk Tryz.func42 (by rw [eq42]; exact hN)

/-- brougham/pack.Q -/
def N43 (n : Int) (w : World) (Q : Value → World → Prop) : Prop :=
 RUNA PG (Instr.alloc 110 true (.tuple #[])) w fun a2 w1 =>
 RD PG (Instr.build 110 #[(0, (.int .i64 (8 : Int))), (1, (.int .u64 n))]) w1 fun v =>
 ∃ x4 : Int, ∃ x4v1 : Int, v = (.agg #[(.int .i64 x4), (.int .u64 x4v1)]) ∧
 (RUNU PG (storeVar 110 a2 (.agg #[(.int .i64 x4), (.int .u64 x4v1)])) w1 fun w2 =>
 RD PG (loadVar 110 a2) w2 fun v2 =>
 ∃ r : Int, ∃ r1 : Int, v2 = (.agg #[(.int .i64 r), (.int .u64 r1)]) ∧
 (Q (.agg #[(.int .i64 r), (.int .u64 r1)]) w2))
theorem eq43 : ∀ (n : Int) (w : World) (Q : Value → World → Prop), vcF PG TB Tryz.f43 .nil [(.int .u64 n)] w Q = N43 n w Q := by intros; kernel_rfl
theorem call43 {n : Int} {w : World} {Q : Value → World → Prop} (hN : N43 n w Q) : CALL PG 43 [(.int .u64 n)] w Q := calls_vc tabOk Tryz.func43 (by rw [eq43]; exact hN)

/-- brougham/broughamref02.Put -/
def N44 (b : Option Addr) (bN bC : Nat) (n : Int) (bytes : Int) (w : World) (Q : Value → World → Prop) : Prop :=
 IFB (decide (bytes < (1 : Int)))
 (Q (.slice b bN bC) w)
 (IFB (decide (bytes > (8 : Int)))
 (Q (.slice b bN bC) w)
 (NEED ((256 : Int) ≠ 0)
 (CALL PG 44 [(.slice b bN bC), (.int .u64 (IntKind.u64.wrap (Int.tdiv n (256 : Int)))), (.int .i64 (IntKind.i64.wrap (bytes - (1 : Int))))] w fun v w1 =>
 ∃ (x19 : Option Addr) (x19N x19C : Nat), v = (.slice x19 x19N x19C) ∧
 (NEED ((256 : Int) ≠ 0)
 (RUNL PG (Instr.buildSlice 64 1 #[(0, (.int .u8 (IntKind.u8.wrap (Int.tmod n (256 : Int)))))]) w1 fun x24 x24N x24C w2 =>
 RUNL PG (Builtin.append_ #[64, 64] 64 #[(.slice x19 x19N x19C), (.slice x24 x24N x24C)]) w2 fun x25 x25N x25C w3 =>
 Q (.slice x25 x25N x25C) w3)))))
theorem eq44 : ∀ (b : Option Addr) (bN bC : Nat) (n : Int) (bytes : Int) (w : World) (Q : Value → World → Prop), vcF PG TB Tryz.f44 .nil [(.slice b bN bC), (.int .u64 n), (.int .i64 bytes)] w Q = N44 b bN bC n bytes w Q := by intros; kernel_rfl
theorem call44 {b : Option Addr} {bN bC : Nat} {n : Int} {bytes : Int} {w : World} {Q : Value → World → Prop} (hN : N44 b bN bC n bytes w Q) : CALL PG 44 [(.slice b bN bC), (.int .u64 n), (.int .i64 bytes)] w Q := calls_vc tabOk Tryz.func44 (by rw [eq44]; exact hN)

/-- brougham/pack.W -/
def N156 (n : Int) (w : World) (Q : Value → World → Prop) : Prop :=
 RUNA PG (Instr.alloc 110 true (.tuple #[])) w fun a2 w1 =>
 RD PG (Instr.build 110 #[(0, (.int .i64 (4 : Int))), (1, (.int .u64 (IntKind.u64.wrap n)))]) w1 fun v =>
 ∃ x5 : Int, ∃ x5v1 : Int, v = (.agg #[(.int .i64 x5), (.int .u64 x5v1)]) ∧
 (RUNU PG (storeVar 110 a2 (.agg #[(.int .i64 x5), (.int .u64 x5v1)])) w1 fun w2 =>
 RD PG (loadVar 110 a2) w2 fun v2 =>
 ∃ r : Int, ∃ r1 : Int, v2 = (.agg #[(.int .i64 r), (.int .u64 r1)]) ∧
 (Q (.agg #[(.int .i64 r), (.int .u64 r1)]) w2))
theorem eq156 : ∀ (n : Int) (w : World) (Q : Value → World → Prop), vcF PG TB Tryz.f156 .nil [(.int .u32 n)] w Q = N156 n w Q := by intros; kernel_rfl
theorem call156 {n : Int} {w : World} {Q : Value → World → Prop} (hN : N156 n w Q) : CALL PG 156 [(.int .u32 n)] w Q := calls_vc tabOk Tryz.func156 (by rw [eq156]; exact hN)

/-- brougham/pack.B -/
def N157 (n : Int) (w : World) (Q : Value → World → Prop) : Prop :=
 RUNA PG (Instr.alloc 110 true (.tuple #[])) w fun a2 w1 =>
 RD PG (Instr.build 110 #[(0, (.int .i64 (1 : Int))), (1, (.int .u64 (IntKind.u64.wrap n)))]) w1 fun v =>
 ∃ x5 : Int, ∃ x5v1 : Int, v = (.agg #[(.int .i64 x5), (.int .u64 x5v1)]) ∧
 (RUNU PG (storeVar 110 a2 (.agg #[(.int .i64 x5), (.int .u64 x5v1)])) w1 fun w2 =>
 RD PG (loadVar 110 a2) w2 fun v2 =>
 ∃ r : Int, ∃ r1 : Int, v2 = (.agg #[(.int .i64 r), (.int .u64 r1)]) ∧
 (Q (.agg #[(.int .i64 r), (.int .u64 r1)]) w2))
theorem eq157 : ∀ (n : Int) (w : World) (Q : Value → World → Prop), vcF PG TB Tryz.f157 .nil [(.int .u8 n)] w Q = N157 n w Q := by intros; kernel_rfl
theorem call157 {n : Int} {w : World} {Q : Value → World → Prop} (hN : N157 n w Q) : CALL PG 157 [(.int .u8 n)] w Q := calls_vc tabOk Tryz.func157 (by rw [eq157]; exact hN)

/-- brougham/pack.Flag -/
def N158 (isv : Bool) (w : World) (Q : Value → World → Prop) : Prop :=
 RUNA PG (Instr.alloc 110 true (.tuple #[])) w fun a2 w1 =>
 IFB isv
 (CALL PG 157 [(.int .u8 (1 : Int))] w1 fun v w2 =>
 ∃ x4 : Int, ∃ x4v1 : Int, v = (.agg #[(.int .i64 x4), (.int .u64 x4v1)]) ∧
 (RUNU PG (storeVar 110 a2 (.agg #[(.int .i64 x4), (.int .u64 x4v1)])) w2 fun w3 =>
 RD PG (loadVar 110 a2) w3 fun v2 =>
 ∃ r : Int, ∃ r1 : Int, v2 = (.agg #[(.int .i64 r), (.int .u64 r1)]) ∧
 (Q (.agg #[(.int .i64 r), (.int .u64 r1)]) w3)))
 (CALL PG 157 [(.int .u8 (0 : Int))] w1 fun v3 w4 =>
 ∃ x5 : Int, ∃ x5v1 : Int, v3 = (.agg #[(.int .i64 x5), (.int .u64 x5v1)]) ∧
 (RUNU PG (storeVar 110 a2 (.agg #[(.int .i64 x5), (.int .u64 x5v1)])) w4 fun w5 =>
 RD PG (loadVar 110 a2) w5 fun v5 =>
 ∃ r2 : Int, ∃ r3 : Int, v5 = (.agg #[(.int .i64 r2), (.int .u64 r3)]) ∧
 (Q (.agg #[(.int .i64 r2), (.int .u64 r3)]) w5)))
theorem eq158 : ∀ (isv : Bool) (w : World) (Q : Value → World → Prop), vcF PG TB Tryz.f158 .nil [(.bool isv)] w Q = N158 isv w Q := by intros; kernel_rfl
theorem call158 {isv : Bool} {w : World} {Q : Value → World → Prop} (hN : N158 isv w Q) : CALL PG 158 [(.bool isv)] w Q := calls_vc tabOk Tryz.func158 (by rw [eq158]; exact hN)

/-- brougham/pack.H -/
def N210 (n : Int) (w : World) (Q : Value → World → Prop) : Prop :=
 RUNA PG (Instr.alloc 110 true (.tuple #[])) w fun a2 w1 =>
 RD PG (Instr.build 110 #[(0, (.int .i64 (2 : Int))), (1, (.int .u64 (IntKind.u64.wrap n)))]) w1 fun v =>
 ∃ x5 : Int, ∃ x5v1 : Int, v = (.agg #[(.int .i64 x5), (.int .u64 x5v1)]) ∧
 (RUNU PG (storeVar 110 a2 (.agg #[(.int .i64 x5), (.int .u64 x5v1)])) w1 fun w2 =>
 RD PG (loadVar 110 a2) w2 fun v2 =>
 ∃ r : Int, ∃ r1 : Int, v2 = (.agg #[(.int .i64 r), (.int .u64 r1)]) ∧
 (Q (.agg #[(.int .i64 r), (.int .u64 r1)]) w2))
theorem eq210 : ∀ (n : Int) (w : World) (Q : Value → World → Prop), vcF PG TB Tryz.f210 .nil [(.int .u16 n)] w Q = N210 n w Q := by intros; kernel_rfl
theorem call210 {n : Int} {w : World} {Q : Value → World → Prop} (hN : N210 n w Q) : CALL PG 210 [(.int .u16 n)] w Q := calls_vc tabOk Tryz.func210 (by rw [eq210]; exact hN)

end Go.Br
