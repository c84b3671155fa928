/- What the code of some functions says, as the core reads it; each reading is checked by the kernel. -/
import Derived.Test.YtccmlfekmmeloaaBrSeat
set_option linter.unusedVariables false
set_option maxRecDepth 100000
namespace Go.Br
open Go Go.Proofs

/-- brougham/broughamlaw20.AddrsFlood -/
def N8 (most : Int) (l : Option Addr) (lN lC : Nat) (w : World) (Q : Value → World → Prop) : Prop :=
 IFB (decide ((lN : Int) > (300 : Int)))
 (Q (.bool true) w)
 (CALL PG 12 [(.int .i64 most), (.int .i64 (4 : Int))] w fun v w1 =>
 ∃ x13 : Option Addr, v = (.pointer x13) ∧
 (IFB (x13.isNone)
 (Q (.bool false) w1)
 (NILC x13 fun a18 =>
 RDP PG (loadVar 27 (Addr.add a18 0)) w1 fun x20 =>
 IFB (x20.isNone)
 (Q (.bool false) w1)
 (∃ I : Nat → Int → Int → Int → World → Prop,
 (∃ m, I m (0 : Int) (0 : Int) (0 : Int) w1) ∧
 (∀ m1 (heard : Int) (ticks : Int) (i : Int) (w2 : World), I m1 heard ticks i w2 → (IFB (decide (i < (lN : Int)))
 (IDX l lN i fun a31 =>
 RDI PG (loadVar 3 (Addr.add (Addr.add a31 (Int.toNat i * 4)) 0)) .i64 w2 fun x33 =>
 NEED ((4 : Int) ≠ 0)
 (IFB ((Int.tmod x33 (4 : Int)) == (0 : Int))
 (NILC x13 fun a37 =>
 RDP PG (loadVar 27 (Addr.add a37 0)) w2 fun x39 =>
 CALL PG 14 [(.pointer x39), (.int .i64 (1 : Int))] w2 fun v1 w3 =>
 v1 = (.tuple #[]) ∧
 (LETI (IntKind.i64.wrap (ticks + (1 : Int))) fun ticks1 =>
 LETI (IntKind.i64.wrap (i + (1 : Int))) fun i1 =>
 ∃ m2, m2 < m1 ∧ I m2 heard ticks1 i1 w3))
 (∃ R : Int → World → Prop,
 (IDX l lN i fun a46 =>
 RD PG (loadVar 24 (Addr.add (Addr.add a46 (Int.toNat i * 4)) 2)) w2 fun v2 =>
 ∃ x48 : Int, ∃ x48v1 : Int, v2 = (.agg #[(.int .i64 x48), (.int .i64 x48v1)]) ∧
 (CALL PG 13 [(.pointer x13), (.agg #[(.int .i64 x48), (.int .i64 x48v1)])] w2 fun v3 w4 =>
 ∃ x49 : Bool, v3 = (.bool x49) ∧
 (IFB x49
 (LETI (IntKind.i64.wrap (heard + (1 : Int))) fun heard1 =>
 R heard1 w4)
 (R heard w4)))) ∧
 (∀ (heard2 : Int) (w5 : World), R heard2 w5 → (NEED ((16 : Int) ≠ 0)
 (IFB (decide (heard2 > (IntKind.i64.wrap ((4 : Int) + (IntKind.i64.wrap (Int.tdiv ticks (16 : Int)))))))
 (Q (.bool false) w5)
 (CALL PG 15 [(.pointer x13)] w5 fun v4 w6 =>
 ∃ (x59 : Option Addr) (x59N x59C : Nat), v4 = (.slice x59 x59N x59C) ∧
 (IFB (decide ((x59N : Int) > (8 : Int)))
 (Q (.bool false) w6)
 (CALL PG 43 [(.pointer x13)] w6 fun v5 w7 =>
 ∃ (x65 : Option Addr) (x65N x65C : Nat), v5 = (.slice x65 x65N x65C) ∧
 (IFB (decide ((x65N : Int) > (4 : Int)))
 (Q (.bool false) w7)
 (LETI (IntKind.i64.wrap (i + (1 : Int))) fun i2 =>
 ∃ m3, m3 < m1 ∧ I m3 heard2 ticks i2 w7)))))))))))
 (CALL PG 17 [] w2 fun v6 w8 =>
 ∃ x69 : Bool, v6 = (.bool x69) ∧
 (LETB x69 fun x4 =>
 Q (.bool x4) w8))))))))
theorem eq8 : ∀ (most : Int) (l : Option Addr) (lN lC : Nat) (w : World) (Q : Value → World → Prop), vcF PG TB Try.f8 (.s .nil (.s .nil (.s .nil (.s .nil (.s .nil (.s (.s .nil (.u (.loop [(6, 3), (7, 3), (8, 3)] (.s .nil (.s (.u (.s .nil (.cut [(6, 3)] .nil .nil))) .nil))))) .nil)))))) [(.int .i64 most), (.slice l lN lC)] w Q = N8 most l lN lC w Q := by intros; kernel_rfl
theorem call8 {most : Int} {l : Option Addr} {lN lC : Nat} {w : World} {Q : Value → World → Prop} (hN : N8 most l lN lC w Q) : CALL PG 8 [(.int .i64 most), (.slice l lN lC)] w Q := calls_vc tabOk Try.func8 (by rw [eq8]; exact hN)

/-- (*brougham/addrs.Table).Paths -/
def N43 (t : Option Addr) (w : World) (Q : Value → World → Prop) : Prop :=
 NILC t fun a7 =>
 RDL PG (loadVar 28 (Addr.add a7 3)) w fun x9 x9N x9C =>
 ∃ I : Nat → Option Addr → Nat → Nat → Int → World → Prop,
 (∃ m, I m none 0 0 (0 : Int) w) ∧
 (∀ m1 (out : Option Addr) (outN outC : Nat) (x11 : Int) (w1 : World), I m1 out outN outC x11 w1 → (IFB (decide (x11 < (x9N : Int)))
 (IDX x9 x9N x11 fun a13 =>
 RD PG (loadVar 24 (Addr.add a13 (Int.toNat x11 * 2))) w1 fun v =>
 ∃ x14 : Int, ∃ x14v1 : Int, v = (.agg #[(.int .i64 x14), (.int .i64 x14v1)]) ∧
 (RUNA PG (Instr.alloc 24 true (.tuple #[])) w1 fun a5 w2 =>
 RUNU PG (storeVar 24 a5 (.agg #[(.int .i64 x14), (.int .i64 x14v1)])) w2 fun w3 =>
 RDI PG (loadVar 3 (Addr.add a5 1)) .i64 w3 fun x17 =>
 RUNL PG (Instr.buildSlice 89 1 #[(0, (.int .i64 x17))]) w3 fun x18 x18N x18C w4 =>
 RUNL PG (Builtin.append_ #[89, 89] 89 #[(.slice out outN outC), (.slice x18 x18N x18C)]) w4 fun x19 x19N x19C w5 =>
 ∃ m2, m2 < m1 ∧ I m2 x19 x19N x19C (IntKind.i64.wrap (x11 + (1 : Int))) w5))
 (CALL PG 98 [(.slice out outN outC)] w1 fun v1 w6 =>
 v1 = (.tuple #[]) ∧
 (CALL PG 99 [(.slice out outN outC)] w6 fun v2 w7 =>
 ∃ (x24 : Option Addr) (x24N x24C : Nat), v2 = (.slice x24 x24N x24C) ∧
 (Q (.slice x24 x24N x24C) w7)))))
theorem eq43 : ∀ (t : Option Addr) (w : World) (Q : Value → World → Prop), vcF PG TB Try.f43 (.s .nil (.s .nil (.s (.s .nil (.u (.loop [(3, 89), (11, 3)] .nil))) .nil))) [(.pointer t)] w Q = N43 t w Q := by intros; kernel_rfl
theorem call43 {t : Option Addr} {w : World} {Q : Value → World → Prop} (hN : N43 t w Q) : CALL PG 43 [(.pointer t)] w Q := calls_vc tabOk Try.func43 (by rw [eq43]; exact hN)

end Go.Br
