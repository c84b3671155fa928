/- What the code of some functions says, as the core reads it; each reading is checked by the kernel. -/
import Derived.Test.YtggajodoaooafaaBrSeat
set_option linter.unusedVariables false
set_option maxRecDepth 100000
namespace Go.Br
open Go Go.Proofs

/-- (*brougham/link.Link).Tick -/
def N37 (x : Option Addr) (w : World) (Q : Value → World → Prop) : Prop :=
 NILC x fun a5 =>
 RDI PG (loadVar 3 (Addr.add a5 12)) .i64 w fun x7 =>
 NILC x fun a9 =>
 RUNU PG (storeVar 3 (Addr.add a9 12) (.int .i64 (IntKind.i64.wrap (x7 + (1 : Int))))) w fun w1 =>
 NILC x fun a12 =>
 RDL PG (loadVar 165 (Addr.add a12 14)) w1 fun x14 x14N x14C =>
 CALL PG 81 [(.slice x14 x14N x14C), (.func (.func 82) #[] #[])] w1 fun v w2 =>
 v = (.tuple #[]) ∧
 (∃ I : Nat → Option Addr → Nat → Nat → World → Prop,
 (∃ m, I m none 0 0 w2) ∧
 (∀ m1 (out : Option Addr) (outN outC : Nat) (w3 : World), I m1 out outN outC w3 → (NILC x fun a19 =>
 RDI PG (loadVar 3 (Addr.add (Addr.add a19 0) 5)) .i64 (w3.drew) fun x22 =>
 IFB (decide ((outN : Int) < x22))
 (NILC x fun a26 =>
 RDL PG (loadVar 165 (Addr.add a26 14)) (w3.drew) fun x28 x28N x28C =>
 IFB (decide ((x28N : Int) > (0 : Int)))
 (NILC x fun a34 =>
 RDL PG (loadVar 165 (Addr.add a34 14)) (w3.drew) fun x36 x36N x36C =>
 IDX x36 x36N (0 : Int) fun a37 =>
 RDI PG (loadVar 3 (Addr.add (Addr.add a37 (Int.toNat (0 : Int) * 3)) 0)) .i64 (w3.drew) fun x39 =>
 NILC x fun a41 =>
 RDI PG (loadVar 3 (Addr.add a41 12)) .i64 (w3.drew) fun x43 =>
 IFB (decide (x39 < x43))
 (NILC x fun a48 =>
 RDL PG (loadVar 165 (Addr.add a48 14)) (w3.drew) fun x50 x50N x50C =>
 IDX x50 x50N (0 : Int) fun a51 =>
 RDL PG (loadVar 30 (Addr.add (Addr.add a51 (Int.toNat (0 : Int) * 3)) 2)) (w3.drew) fun x53 x53N x53C =>
 RUNL PG (Instr.buildSlice 65 1 #[(0, (.slice x53 x53N x53C))]) (w3.drew) fun x54 x54N x54C w4 =>
 RUNL PG (Builtin.append_ #[65, 65] 65 #[(.slice out outN outC), (.slice x54 x54N x54C)]) w4 fun x55 x55N x55C w5 =>
 NILC x fun a58 =>
 RDL PG (loadVar 165 (Addr.add a58 14)) w5 fun x60 x60N x60C =>
 NEED (0 ≤ (1 : Int) ∧ (1 : Int) ≤ ((x60N : Nat) : Int) ∧ ((x60N : Nat) : Int) ≤ ((x60C : Nat) : Int))
 (CALL PG 83 [(.slice (cutA x60 x60C 3 (1 : Int)) (Int.toNat ((x60N : Nat) : Int) - Int.toNat (1 : Int)) (x60C - Int.toNat (1 : Int)))] w5 fun v1 w6 =>
 ∃ (x62 : Option Addr) (x62N x62C : Nat), v1 = (.slice x62 x62N x62C) ∧
 (NILC x fun a63 =>
 RUNU PG (storeVar 165 (Addr.add a63 14) (.slice x62 x62N x62C)) w6 fun w7 =>
 NILC x fun a66 =>
 RDI PG (loadVar 3 (Addr.add (Addr.add a66 6) 4)) .i64 w7 fun x69 =>
 NILC x fun a71 =>
 RUNU PG (storeVar 3 (Addr.add (Addr.add a71 6) 4) (.int .i64 (IntKind.i64.wrap (x69 + (1 : Int))))) w7 fun w8 =>
 ∃ m2, m2 < m1 ∧ I m2 x55 x55N x55C w8)))
 (Q (.slice out outN outC) (w3.drew)))
 (Q (.slice out outN outC) (w3.drew)))
 (Q (.slice out outN outC) (w3.drew)))))
theorem eq37 : ∀ (x : Option Addr) (w : World) (Q : Value → World → Prop), vcF PG TB Try.f37 (.s .nil (.s .nil (.s .nil (.s .nil (.s (.u (.loop [(3, 65)] .nil)) .nil))))) [(.pointer x)] w Q = N37 x w Q := by intros; kernel_rfl
theorem call37 {x : Option Addr} {w : World} {Q : Value → World → Prop} (hN : N37 x w Q) : CALL PG 37 [(.pointer x)] w Q := calls_vc tabOk Try.func37 (by rw [eq37]; exact hN)

end Go.Br
