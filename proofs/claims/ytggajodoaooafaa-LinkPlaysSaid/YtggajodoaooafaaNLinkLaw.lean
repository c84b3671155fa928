/- What the code of some functions says, as the core reads it; each reading is checked by the kernel. -/
import Derived.Test.YtggajodoaooafaaBrSeat
set_option linter.unusedVariables false
set_option maxRecDepth 100000
namespace Go.Br
open Go Go.Proofs

/-- brougham/broughamlaw32.LinkDraws -/
def N5 (seed : Int) (many : Int) (n : Int) (w : World) (Q : Value → World → Prop) : Prop :=
 IFB (decide (many > (1000 : Int)))
 (Q (.bool true) w)
 (CALL PG 25 [(.int .u64 seed)] w fun v w1 =>
 ∃ x14 : Option Addr, v = (.pointer x14) ∧
 (CALL PG 25 [(.int .u64 seed)] w1 fun v1 w2 =>
 ∃ x16 : Option Addr, v1 = (.pointer x16) ∧
 (IFB (x14.isNone)
 (Q (.bool false) w2)
 (IFB (x16.isNone)
 (Q (.bool false) w2)
 (LETI seed fun x =>
 ∃ R : Int → World → Prop,
 (IFB (x == (0 : Int))
 (R (1 : Int) w2)
 (R x w2)) ∧
 (∀ (x1 : Int) (w3 : World), R x1 w3 → (∃ I : Nat → Int → Int → World → Prop,
 (∃ m, I m x1 (0 : Int) w3) ∧
 (∀ m1 (x2 : Int) (i : Int) (w4 : World), I m1 x2 i w4 → (IFB (decide (i < many))
 (IFB (decide (n < (1 : Int)))
 (CALL PG 26 [(.pointer x16), (.int .i64 n)] w4 fun v2 w5 =>
 ∃ x35 : Int, v2 = (.int .i64 x35) ∧
 (IFB (x35 != (0 : Int))
 (Q (.bool false) w5)
 (LETI (IntKind.i64.wrap (i + (1 : Int))) fun i1 =>
 ∃ m2, m2 < m1 ∧ I m2 x2 i1 w5)))
 (CALL PG 27 [(.int .u64 x2)] w4 fun v3 w6 =>
 ∃ x38 : Int, v3 = (.int .u64 x38) ∧
 (LETI x38 fun x3 =>
 CALL PG 28 [(.pointer x14)] (w6.drew) fun v4 w7 =>
 ∃ x40 : Int, v4 = (.int .u64 x40) ∧
 (∃ S : World → Prop, S w7 ∧
 (IFB (x40 != x3)
 (Q (.bool false) w7)
 (NEED ((IntKind.u64.wrap n) ≠ 0)
 (CALL PG 26 [(.pointer x16), (.int .i64 n)] w7 fun v5 w8 =>
 ∃ x46 : Int, v5 = (.int .i64 x46) ∧
 (∃ S1 : World → Prop, (∀ x, S1 x → S x) ∧ S1 w8 ∧
 (IFB (x46 != (IntKind.i64.wrap (Int.tmod x3 (IntKind.u64.wrap n))))
 (Q (.bool false) w8)
 (LETI (IntKind.i64.wrap (i + (1 : Int))) fun i2 =>
 ∃ m3, m3 < m1 ∧ I m3 x3 i2 w8))))))))))
 (CALL PG 29 [] w4 fun v6 w9 =>
 ∃ x54 : Bool, v6 = (.bool x54) ∧
 (LETB x54 fun x6 =>
 Q (.bool x6) w9)))))))))))
theorem eq5 : ∀ (seed : Int) (many : Int) (n : Int) (w : World) (Q : Value → World → Prop), vcF PG TB Try.f5 (.s .nil (.s .nil (.s .nil (.s .nil (.s .nil (.cut [(9, 56)] .nil (.s (.s .nil (.u (.loop [(9, 56), (10, 3)] .nil))) .nil))))))) [(.int .u64 seed), (.int .i64 many), (.int .i64 n)] w Q = N5 seed many n w Q := by intros; kernel_rfl
theorem call5 {seed : Int} {many : Int} {n : Int} {w : World} {Q : Value → World → Prop} (hN : N5 seed many n w Q) : CALL PG 5 [(.int .u64 seed), (.int .i64 many), (.int .i64 n)] w Q := calls_vc tabOk Try.func5 (by rw [eq5]; exact hN)

/-- brougham/broughamlaw32.alive -/
def N29  (w : World) (Q : Value → World → Prop) : Prop :=
 RD PG (Instr.build 64 #[(0, (.int .i64 (1 : Int))), (4, (.int .i64 (9 : Int))), (5, (.int .i64 (9 : Int)))]) w fun v =>
 ∃ x6 : Int, ∃ x6v1 : Int, ∃ x6v2 : Int, ∃ x6v3 : Int, ∃ x6v4 : Int, ∃ x6v5 : Int, v = (.agg #[(.int .i64 x6), (.int .i64 x6v1), (.int .i64 x6v2), (.int .i64 x6v3), (.int .i64 x6v4), (.int .i64 x6v5)]) ∧
 (CALL PG 30 [(.agg #[(.int .i64 x6), (.int .i64 x6v1), (.int .i64 x6v2), (.int .i64 x6v3), (.int .i64 x6v4), (.int .i64 x6v5)]), (.int .u64 (5 : Int))] w fun v1 w1 =>
 ∃ x7 : Option Addr, ∃ x7v1 : Int, v1 = (.tuple #[(.pointer x7), (.int .i64 x7v1)]) ∧
 (LETI x7v1 fun e =>
 IFB (e != (0 : Int))
 (Q (.bool false) w1)
 (IFB (x7.isNone)
 (Q (.bool false) w1)
 (RUNL PG (Instr.buildSlice 30 1 #[(0, (.int .u8 (120 : Int)))]) w1 fun x17 x17N x17C w2 =>
 RUNL PG (convert 30 30 (.slice x17 x17N x17C)) w2 fun x18 x18N x18C w3 =>
 CALL PG 38 [(.pointer x7), (.slice x18 x18N x18C)] w3 fun v2 w4 =>
 v2 = (.tuple #[]) ∧
 (CALL PG 37 [(.pointer x7)] w4 fun v3 w5 =>
 ∃ (x21 : Option Addr) (x21N x21C : Nat), v3 = (.slice x21 x21N x21C) ∧
 (CALL PG 37 [(.pointer x7)] w5 fun v4 w6 =>
 ∃ (x23 : Option Addr) (x23N x23C : Nat), v4 = (.slice x23 x23N x23C) ∧
 (IFB ((x21N : Int) == (0 : Int))
 (IFB ((x23N : Int) == (1 : Int))
 (IDX x23 x23N (0 : Int) fun a34 =>
 RDL PG (loadVar 30 (Addr.add a34 (Int.toNat (0 : Int) * 1))) w6 fun x35 x35N x35C =>
 RDT PG (convert 30 9 (.slice x35 x35N x35C)) w6 fun x36 =>
 IFB (x36.toList == (ByteArray.mk #[120]).toList)
 (CALL PG 41 [(.pointer x7)] w6 fun v5 w7 =>
 ∃ x41 : Int, ∃ x41v1 : Int, ∃ x41v2 : Int, ∃ x41v3 : Int, ∃ x41v4 : Int, v5 = (.agg #[(.int .i64 x41), (.int .i64 x41v1), (.int .i64 x41v2), (.int .i64 x41v3), (.int .i64 x41v4)]) ∧
 (RD PG (Instr.build 87 #[(0, (.int .i64 (1 : Int))), (4, (.int .i64 (1 : Int)))]) w7 fun v6 =>
 ∃ x42 : Int, ∃ x42v1 : Int, ∃ x42v2 : Int, ∃ x42v3 : Int, ∃ x42v4 : Int, v6 = (.agg #[(.int .i64 x42), (.int .i64 x42v1), (.int .i64 x42v2), (.int .i64 x42v3), (.int .i64 x42v4)]) ∧
 (RDB PG (do eqGuard .eql 87 (.tmp 41) (.tmp 42) (.agg #[(.int .i64 x41), (.int .i64 x41v1), (.int .i64 x41v2), (.int .i64 x41v3), (.int .i64 x41v4)]) (.agg #[(.int .i64 x42), (.int .i64 x42v1), (.int .i64 x42v2), (.int .i64 x42v3), (.int .i64 x42v4)]); binOp .eql 87 (.agg #[(.int .i64 x41), (.int .i64 x41v1), (.int .i64 x41v2), (.int .i64 x41v3), (.int .i64 x41v4)]) (.agg #[(.int .i64 x42), (.int .i64 x42v1), (.int .i64 x42v2), (.int .i64 x42v3), (.int .i64 x42v4)])) w7 fun x43 =>
 LETB x43 fun x0 =>
 Q (.bool x0) w7)))
 (LETB false fun x0v1 =>
 Q (.bool x0v1) w6))
 (LETB false fun x0v2 =>
 Q (.bool x0v2) w6))
 (LETB false fun x0v3 =>
 Q (.bool x0v3) w6))))))))
theorem eq29 : ∀  (w : World) (Q : Value → World → Prop), vcF PG TB Try.f29 .nil [] w Q = N29  w Q := by intros; kernel_rfl
theorem call29  {w : World} {Q : Value → World → Prop} (hN : N29  w Q) : CALL PG 29 [] w Q := calls_vc tabOk Try.func29 (by rw [eq29]; exact hN)

end Go.Br
