/- What the code of some functions says, as the core reads it; each reading is checked by the kernel. -/
import Derived.Test.YtggajodoaooafaaBrSeat
set_option linter.unusedVariables false
set_option maxRecDepth 100000
namespace Go.Br
open Go Go.Proofs

/-- brougham/plan.ids -/
def N98 (l : Option Addr) (lN lC : Nat) (many : Int) (w : World) (Q : Value → World → Prop) : Prop :=
 NEED (0 ≤ (0 : Int) ∧ (0 : Int) ≤ (minN (maxN many (0 : Int)) (lN : Int)) ∧ (minN (maxN many (0 : Int)) (lN : Int)) ≤ ((lC : Nat) : Int))
 (∃ I : Nat → Option Addr → Nat → Nat → Int → World → Prop,
 (∃ m, I m none 0 0 (0 : Int) w) ∧
 (∀ m1 (out : Option Addr) (outN outC : Nat) (x16 : Int) (w1 : World), I m1 out outN outC x16 w1 → (IFB (decide (x16 < (((Int.toNat (minN (maxN many (0 : Int)) (lN : Int)) - Int.toNat (0 : Int)) : Nat) : Int)))
 (IDX (cutA l lC 7 (0 : Int)) (Int.toNat (minN (maxN many (0 : Int)) (lN : Int)) - Int.toNat (0 : Int)) x16 fun a18 =>
 RD PG (loadVar 108 (Addr.add a18 (Int.toNat x16 * 7))) w1 fun v =>
 ∃ x19 : Int, ∃ x19v1 : Bool, ∃ x19v2 : Bool, ∃ x19v3 : Bool, ∃ x19v4 : Bool, ∃ x19v5 : Int, ∃ x19v6 : Int, v = (.agg #[(.int .i64 x19), (.bool x19v1), (.bool x19v2), (.bool x19v3), (.bool x19v4), (.int .i64 x19v5), (.int .i64 x19v6)]) ∧
 (RUNA PG (Instr.alloc 108 true (.tuple #[])) w1 fun a7 w2 =>
 RUNU PG (storeVar 108 a7 (.agg #[(.int .i64 x19), (.bool x19v1), (.bool x19v2), (.bool x19v3), (.bool x19v4), (.int .i64 x19v5), (.int .i64 x19v6)])) w2 fun w3 =>
 RDI PG (loadVar 3 (Addr.add a7 0)) .i64 w3 fun x22 =>
 RUNL PG (Instr.buildSlice 95 1 #[(0, (.int .i64 x22))]) w3 fun x23 x23N x23C w4 =>
 RUNL PG (Builtin.append_ #[95, 95] 95 #[(.slice out outN outC), (.slice x23 x23N x23C)]) w4 fun x24 x24N x24C w5 =>
 ∃ m2, m2 < m1 ∧ I m2 x24 x24N x24C (IntKind.i64.wrap (x16 + (1 : Int))) w5))
 (Q (.slice out outN outC) w1))))
theorem eq98 : ∀ (l : Option Addr) (lN lC : Nat) (many : Int) (w : World) (Q : Value → World → Prop), vcF PG TB Try.f98 (.s .nil (.s .nil (.s (.s .nil (.u (.loop [(5, 95), (16, 3)] .nil))) .nil))) [(.slice l lN lC), (.int .i64 many)] w Q = N98 l lN lC many w Q := by intros; kernel_rfl
theorem call98 {l : Option Addr} {lN lC : Nat} {many : Int} {w : World} {Q : Value → World → Prop} (hN : N98 l lN lC many w Q) : CALL PG 98 [(.slice l lN lC), (.int .i64 many)] w Q := calls_vc tabOk Try.func98 (by rw [eq98]; exact hN)

/-- brougham/plan.best -/
def N127 (l : Option Addr) (lN lC : Nat) (w : World) (Q : Value → World → Prop) : Prop :=
 ∃ I : Nat → Option Addr → Nat → Nat → Int → World → Prop,
 (∃ m, I m none 0 0 (0 : Int) w) ∧
 (∀ m1 (out : Option Addr) (outN outC : Nat) (x8 : Int) (w1 : World), I m1 out outN outC x8 w1 → (IFB (decide (x8 < (lN : Int)))
 (IDX l lN x8 fun a10 =>
 RD PG (loadVar 108 (Addr.add a10 (Int.toNat x8 * 7))) w1 fun v =>
 ∃ x11 : Int, ∃ x11v1 : Bool, ∃ x11v2 : Bool, ∃ x11v3 : Bool, ∃ x11v4 : Bool, ∃ x11v5 : Int, ∃ x11v6 : Int, v = (.agg #[(.int .i64 x11), (.bool x11v1), (.bool x11v2), (.bool x11v3), (.bool x11v4), (.int .i64 x11v5), (.int .i64 x11v6)]) ∧
 (RUNA PG (Instr.alloc 108 true (.tuple #[])) w1 fun a5 w2 =>
 RUNU PG (storeVar 108 a5 (.agg #[(.int .i64 x11), (.bool x11v1), (.bool x11v2), (.bool x11v3), (.bool x11v4), (.int .i64 x11v5), (.int .i64 x11v6)])) w2 fun w3 =>
 RDB PG (loadVar 4 (Addr.add a5 2)) w3 fun x13 =>
 IFB x13
 (RDB PG (loadVar 4 (Addr.add a5 1)) w3 fun x16 =>
 IFB x16
 (RD PG (loadVar 108 a5) w3 fun v1 =>
 ∃ x19 : Int, ∃ x19v1 : Bool, ∃ x19v2 : Bool, ∃ x19v3 : Bool, ∃ x19v4 : Bool, ∃ x19v5 : Int, ∃ x19v6 : Int, v1 = (.agg #[(.int .i64 x19), (.bool x19v1), (.bool x19v2), (.bool x19v3), (.bool x19v4), (.int .i64 x19v5), (.int .i64 x19v6)]) ∧
 (RUNL PG (Instr.buildSlice 106 1 #[(0, (.agg #[(.int .i64 x19), (.bool x19v1), (.bool x19v2), (.bool x19v3), (.bool x19v4), (.int .i64 x19v5), (.int .i64 x19v6)]))]) w3 fun x20 x20N x20C w4 =>
 RUNL PG (Builtin.append_ #[106, 106] 106 #[(.slice out outN outC), (.slice x20 x20N x20C)]) w4 fun x21 x21N x21C w5 =>
 ∃ m2, m2 < m1 ∧ I m2 x21 x21N x21C (IntKind.i64.wrap (x8 + (1 : Int))) w5))
 (∃ m3, m3 < m1 ∧ I m3 out outN outC (IntKind.i64.wrap (x8 + (1 : Int))) w3))
 (∃ m4, m4 < m1 ∧ I m4 out outN outC (IntKind.i64.wrap (x8 + (1 : Int))) w3)))
 (CALL PG 125 [(.slice out outN outC), (.func (.func 143) #[] #[])] w1 fun v2 w6 =>
 v2 = (.tuple #[]) ∧
 (Q (.slice out outN outC) w6))))
theorem eq127 : ∀ (l : Option Addr) (lN lC : Nat) (w : World) (Q : Value → World → Prop), vcF PG TB Try.f127 (.s .nil (.s .nil (.s (.s .nil (.u (.loop [(3, 106), (8, 3)] .nil))) .nil))) [(.slice l lN lC)] w Q = N127 l lN lC w Q := by intros; kernel_rfl
theorem call127 {l : Option Addr} {lN lC : Nat} {w : World} {Q : Value → World → Prop} (hN : N127 l lN lC w Q) : CALL PG 127 [(.slice l lN lC)] w Q := calls_vc tabOk Try.func127 (by rw [eq127]; exact hN)

end Go.Br
