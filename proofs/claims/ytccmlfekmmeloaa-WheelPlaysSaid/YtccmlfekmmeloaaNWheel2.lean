/- What the code of some functions says, as the core reads it; each reading is checked by the kernel. -/
import Derived.Test.YtccmlfekmmeloaaBrSeat
set_option linter.unusedVariables false
set_option maxRecDepth 100000
namespace Go.Br
open Go Go.Proofs

/-- (*brougham/wheel.Wheel).turn -/
def N97 (wv : Option Addr) (r : Int) (slot : Int) (w : World) (Q : Value → World → Prop) : Prop :=
 NILC wv fun a12 =>
 NEED (0 ≤ r ∧ r < ((4 : Nat) : Int))
 (NEED (0 ≤ slot ∧ slot < ((16 : Nat) : Int))
 (RDL PG (loadVar 160 (Addr.add (Addr.add (Addr.add a12 3) (Int.toNat r * 16)) (Int.toNat slot * 1))) w fun x16 x16N x16C =>
 NILC wv fun a20 =>
 NEED (0 ≤ r ∧ r < ((4 : Nat) : Int))
 (NEED (0 ≤ slot ∧ slot < ((16 : Nat) : Int))
 (RUNU PG (storeVar 160 (Addr.add (Addr.add (Addr.add a20 3) (Int.toNat r * 16)) (Int.toNat slot * 1)) (.slice none 0 0)) w fun w1 =>
 ∃ I : Nat → Int → World → Prop,
 (∃ m, I m (0 : Int) w1) ∧
 (∀ m1 (x26 : Int) (w2 : World), I m1 x26 w2 → (IFB (decide (x26 < (x16N : Int)))
 (IDX x16 x16N x26 fun a28 =>
 RD PG (loadVar 167 (Addr.add a28 (Int.toNat x26 * 2))) w2 fun v =>
 ∃ x29 : Int, ∃ x29v1 : Int, v = (.agg #[(.int .i64 x29), (.int .i64 x29v1)]) ∧
 (RUNA PG (Instr.alloc 167 true (.tuple #[])) w2 fun a8 w3 =>
 RUNU PG (storeVar 167 a8 (.agg #[(.int .i64 x29), (.int .i64 x29v1)])) w3 fun w4 =>
 RD PG (loadVar 167 a8) w4 fun v1 =>
 ∃ x31 : Int, ∃ x31v1 : Int, v1 = (.agg #[(.int .i64 x31), (.int .i64 x31v1)]) ∧
 (CALL PG 96 [(.pointer wv), (.agg #[(.int .i64 x31), (.int .i64 x31v1)])] w4 fun v2 w5 =>
 v2 = (.tuple #[]) ∧
 (∃ m2, m2 < m1 ∧ I m2 (IntKind.i64.wrap (x26 + (1 : Int))) w5))))
 (Q (.tuple #[]) w2)))))))
theorem eq97 : ∀ (wv : Option Addr) (r : Int) (slot : Int) (w : World) (Q : Value → World → Prop), vcF PG TB Try.f97 (.s .nil (.s .nil (.s .nil (.u (.loop [(26, 3)] .nil))))) [(.pointer wv), (.int .i64 r), (.int .i64 slot)] w Q = N97 wv r slot w Q := by intros; kernel_rfl
theorem call97 {wv : Option Addr} {r : Int} {slot : Int} {w : World} {Q : Value → World → Prop} (hN : N97 wv r slot w Q) : CALL PG 97 [(.pointer wv), (.int .i64 r), (.int .i64 slot)] w Q := calls_vc tabOk Try.func97 (by rw [eq97]; exact hN)

end Go.Br
