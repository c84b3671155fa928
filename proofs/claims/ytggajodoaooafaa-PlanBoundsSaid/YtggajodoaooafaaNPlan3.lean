/- What the code of some functions says, as the core reads it; each reading is checked by the kernel. -/
import Derived.Test.YtggajodoaooafaaBrSeat
set_option linter.unusedVariables false
set_option maxRecDepth 100000
namespace Go.Br
open Go Go.Proofs

/-- brougham/plan.spare -/
def N99 (l : Option Addr) (lN lC : Nat) (w : World) (Q : Value → World → Prop) : Prop :=
 CALL PG 127 [(.slice l lN lC)] w fun v w1 =>
 ∃ (x7 : Option Addr) (x7N x7C : Nat), v = (.slice x7 x7N x7C) ∧
 (∃ I : Nat → Option Addr → Nat → Nat → Int → World → Prop,
 (∃ m, I m none 0 0 (0 : Int) w1) ∧
 (∀ m1 (out : Option Addr) (outN outC : Nat) (x9 : Int) (w2 : World), I m1 out outN outC x9 w2 → (IFB (decide (x9 < (x7N : Int)))
 (IDX x7 x7N x9 fun a12 =>
 RD PG (loadVar 108 (Addr.add a12 (Int.toNat x9 * 7))) w2 fun v1 =>
 ∃ x13 : Int, ∃ x13v1 : Bool, ∃ x13v2 : Bool, ∃ x13v3 : Bool, ∃ x13v4 : Bool, ∃ x13v5 : Int, ∃ x13v6 : Int, v1 = (.agg #[(.int .i64 x13), (.bool x13v1), (.bool x13v2), (.bool x13v3), (.bool x13v4), (.int .i64 x13v5), (.int .i64 x13v6)]) ∧
 (RUNA PG (Instr.alloc 108 true (.tuple #[])) w2 fun a5 w3 =>
 LETI x9 fun i =>
 RUNU PG (storeVar 108 a5 (.agg #[(.int .i64 x13), (.bool x13v1), (.bool x13v2), (.bool x13v3), (.bool x13v4), (.int .i64 x13v5), (.int .i64 x13v6)])) w3 fun w4 =>
 IFB (decide (i > (0 : Int)))
 (RDB PG (loadVar 4 (Addr.add a5 3)) w4 fun x18 =>
 IFB (!x18)
 (RDI PG (loadVar 3 (Addr.add a5 0)) .i64 w4 fun x23 =>
 RUNL PG (Instr.buildSlice 95 1 #[(0, (.int .i64 x23))]) w4 fun x24 x24N x24C w5 =>
 RUNL PG (Builtin.append_ #[95, 95] 95 #[(.slice out outN outC), (.slice x24 x24N x24C)]) w5 fun x25 x25N x25C w6 =>
 ∃ m2, m2 < m1 ∧ I m2 x25 x25N x25C (IntKind.i64.wrap (x9 + (1 : Int))) w6)
 (∃ m3, m3 < m1 ∧ I m3 out outN outC (IntKind.i64.wrap (x9 + (1 : Int))) w4))
 (∃ m4, m4 < m1 ∧ I m4 out outN outC (IntKind.i64.wrap (x9 + (1 : Int))) w4)))
 (Q (.slice out outN outC) w2))))
theorem eq99 : ∀ (l : Option Addr) (lN lC : Nat) (w : World) (Q : Value → World → Prop), vcF PG TB Try.f99 (.s .nil (.s .nil (.s (.s .nil (.u (.loop [(3, 95), (9, 3)] .nil))) .nil))) [(.slice l lN lC)] w Q = N99 l lN lC w Q := by intros; kernel_rfl
theorem call99 {l : Option Addr} {lN lC : Nat} {w : World} {Q : Value → World → Prop} (hN : N99 l lN lC w Q) : CALL PG 99 [(.slice l lN lC)] w Q := calls_vc tabOk Try.func99 (by rw [eq99]; exact hN)

/-- brougham/plan.extra -/
def N100 (l : Option Addr) (lN lC : Nat) (w : World) (Q : Value → World → Prop) : Prop :=
 CALL PG 127 [(.slice l lN lC)] w fun v w1 =>
 ∃ (x5 : Option Addr) (x5N x5C : Nat), v = (.slice x5 x5N x5C) ∧
 (IFB ((x5N : Int) == (0 : Int))
 (Q (.slice none 0 0) w1)
 (IDX x5 x5N (0 : Int) fun a11 =>
 RDB PG (loadVar 4 (Addr.add (Addr.add a11 (Int.toNat (0 : Int) * 7)) 4)) w1 fun x13 =>
 IFB x13
 (Q (.slice none 0 0) w1)
 (NEED (0 ≤ (1 : Int) ∧ (1 : Int) ≤ ((x5N : Nat) : Int) ∧ ((x5N : Nat) : Int) ≤ ((x5C : Nat) : Int))
 (CALL PG 98 [(.slice (cutA x5 x5C 7 (1 : Int)) (Int.toNat ((x5N : Nat) : Int) - Int.toNat (1 : Int)) (x5C - Int.toNat (1 : Int))), (.int .i64 (x5N : Int))] w1 fun v1 w2 =>
 ∃ (x19 : Option Addr) (x19N x19C : Nat), v1 = (.slice x19 x19N x19C) ∧
 (Q (.slice x19 x19N x19C) w2)))))
theorem eq100 : ∀ (l : Option Addr) (lN lC : Nat) (w : World) (Q : Value → World → Prop), vcF PG TB Try.f100 .nil [(.slice l lN lC)] w Q = N100 l lN lC w Q := by intros; kernel_rfl
theorem call100 {l : Option Addr} {lN lC : Nat} {w : World} {Q : Value → World → Prop} (hN : N100 l lN lC w Q) : CALL PG 100 [(.slice l lN lC)] w Q := calls_vc tabOk Try.func100 (by rw [eq100]; exact hN)

end Go.Br
