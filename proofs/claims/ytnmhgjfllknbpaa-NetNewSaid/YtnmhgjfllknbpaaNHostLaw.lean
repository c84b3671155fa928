/- What the code of some functions says, as the core reads it; each reading is checked by the kernel. -/
import Derived.Test.YtnmhgjfllknbpaaBrSeat
set_option linter.unusedVariables false
set_option maxRecDepth 100000
namespace Go.Br
open Go Go.Proofs

/-- brougham/broughamlaw23.Usual -/
def N12  (w : World) (Q : Value → World → Prop) : Prop :=
 RUNA PG (Instr.alloc 24 true (.tuple #[])) w fun a0 w1 =>
 RD PG (Instr.build 24 #[(0, (.int .i64 (2 : Int))), (1, (.int .i64 (2 : Int))), (2, (.int .i64 (3 : Int))), (3, (.int .i64 (3 : Int))), (4, (.int .i64 (64 : Int))), (5, (.int .i64 (16 : Int))), (6, (.int .i64 (4 : Int))), (7, (.int .i64 (3 : Int))), (8, (.int .i64 (8 : Int))), (9, (.int .i64 (200 : Int))), (10, (.int .i64 (20 : Int))), (11, (.int .i64 (3 : Int))), (12, (.int .i64 (1 : Int))), (13, (.int .i64 (8 : Int))), (14, (.int .i64 (1 : Int)))]) w1 fun v =>
 ∃ x1 : Int, ∃ x1v1 : Int, ∃ x1v2 : Int, ∃ x1v3 : Int, ∃ x1v4 : Int, ∃ x1v5 : Int, ∃ x1v6 : Int, ∃ x1v7 : Int, ∃ x1v8 : Int, ∃ x1v9 : Int, ∃ x1v10 : Int, ∃ x1v11 : Int, ∃ x1v12 : Int, ∃ x1v13 : Int, ∃ x1v14 : Int, v = (.agg #[(.int .i64 x1), (.int .i64 x1v1), (.int .i64 x1v2), (.int .i64 x1v3), (.int .i64 x1v4), (.int .i64 x1v5), (.int .i64 x1v6), (.int .i64 x1v7), (.int .i64 x1v8), (.int .i64 x1v9), (.int .i64 x1v10), (.int .i64 x1v11), (.int .i64 x1v12), (.int .i64 x1v13), (.int .i64 x1v14)]) ∧
 (RUNU PG (storeVar 24 a0 (.agg #[(.int .i64 x1), (.int .i64 x1v1), (.int .i64 x1v2), (.int .i64 x1v3), (.int .i64 x1v4), (.int .i64 x1v5), (.int .i64 x1v6), (.int .i64 x1v7), (.int .i64 x1v8), (.int .i64 x1v9), (.int .i64 x1v10), (.int .i64 x1v11), (.int .i64 x1v12), (.int .i64 x1v13), (.int .i64 x1v14)])) w1 fun w2 =>
 RD PG (loadVar 24 a0) w2 fun v2 =>
 ∃ r : Int, ∃ r1 : Int, ∃ r2 : Int, ∃ r3 : Int, ∃ r4 : Int, ∃ r5 : Int, ∃ r6 : Int, ∃ r7 : Int, ∃ r8 : Int, ∃ r9 : Int, ∃ r10 : Int, ∃ r11 : Int, ∃ r12 : Int, ∃ r13 : Int, ∃ r14 : Int, v2 = (.agg #[(.int .i64 r), (.int .i64 r1), (.int .i64 r2), (.int .i64 r3), (.int .i64 r4), (.int .i64 r5), (.int .i64 r6), (.int .i64 r7), (.int .i64 r8), (.int .i64 r9), (.int .i64 r10), (.int .i64 r11), (.int .i64 r12), (.int .i64 r13), (.int .i64 r14)]) ∧
 (Q (.agg #[(.int .i64 r), (.int .i64 r1), (.int .i64 r2), (.int .i64 r3), (.int .i64 r4), (.int .i64 r5), (.int .i64 r6), (.int .i64 r7), (.int .i64 r8), (.int .i64 r9), (.int .i64 r10), (.int .i64 r11), (.int .i64 r12), (.int .i64 r13), (.int .i64 r14)]) w2))
theorem eq12 : ∀  (w : World) (Q : Value → World → Prop), vcF PG TB Try.f12 .nil [] w Q = N12  w Q := by intros; kernel_rfl
theorem call12  {w : World} {Q : Value → World → Prop} (hN : N12  w Q) : CALL PG 12 [] w Q := calls_vc tabOk Try.func12 (by rw [eq12]; exact hN)

/-- brougham/host.good -/
def N20 (atv : Int) (w : World) (Q : Value → World → Prop) : Prop :=
 IFB (decide (atv ≥ (1 : Int)))
 (LETB (decide (atv ≤ (65535 : Int))) fun x2 =>
 Q (.bool x2) w)
 (LETB false fun x2v1 =>
 Q (.bool x2v1) w)
theorem eq20 : ∀ (atv : Int) (w : World) (Q : Value → World → Prop), vcF PG TB Try.f20 .nil [(.int .i64 atv)] w Q = N20 atv w Q := by intros; kernel_rfl
theorem call20 {atv : Int} {w : World} {Q : Value → World → Prop} (hN : N20 atv w Q) : CALL PG 20 [(.int .i64 atv)] w Q := calls_vc tabOk Try.func20 (by rw [eq20]; exact hN)

/-- (*brougham/host.Host).listener -/
def N21 (h : Option Addr) (atv : Int) (w : World) (Q : Value → World → Prop) : Prop :=
 NILC h fun a8 =>
 RDL PG (loadVar 59 (Addr.add a8 28)) w fun x10 x10N x10C =>
 ∃ I : Nat → Int → World → Prop,
 (∃ m, I m (0 : Int) w) ∧
 (∀ m1 (x12 : Int) (w1 : World), I m1 x12 w1 → (IFB (decide (x12 < (x10N : Int)))
 (IDX x10 x10N x12 fun a14 =>
 RDP PG (loadVar 64 (Addr.add a14 (Int.toNat x12 * 1))) w1 fun x15 =>
 NILC x15 fun a17 =>
 RDI PG (loadVar 3 (Addr.add a17 0)) .i64 w1 fun x19 =>
 IFB (x19 == atv)
 (Q (.pointer x15) w1)
 (∃ m2, m2 < m1 ∧ I m2 (IntKind.i64.wrap (x12 + (1 : Int))) w1))
 (Q (.pointer none) w1)))
theorem eq21 : ∀ (h : Option Addr) (atv : Int) (w : World) (Q : Value → World → Prop), vcF PG TB Try.f21 (.s .nil (.s (.s .nil (.u (.loop [(12, 3)] .nil))) .nil)) [(.pointer h), (.int .i64 atv)] w Q = N21 h atv w Q := by intros; kernel_rfl
theorem call21 {h : Option Addr} {atv : Int} {w : World} {Q : Value → World → Prop} (hN : N21 h atv w Q) : CALL PG 21 [(.pointer h), (.int .i64 atv)] w Q := calls_vc tabOk Try.func21 (by rw [eq21]; exact hN)

end Go.Br
