/- What the code of some functions says, as the core reads it; each reading is checked by the kernel. -/
import Derived.Test.YtggajodoaooafaaBrSeat
set_option linter.unusedVariables false
set_option maxRecDepth 100000
namespace Go.Br
open Go Go.Proofs

/-- brougham/broughamlaw38.alive -/
def N51  (w : World) (Q : Value → World → Prop) : Prop :=
 RD PG (Instr.build 108 #[(0, (.int .i64 (1 : Int))), (1, (.bool true)), (2, (.bool true))]) w fun v =>
 ∃ x2 : Int, ∃ x2v1 : Bool, ∃ x2v2 : Bool, ∃ x2v3 : Bool, ∃ x2v4 : Bool, ∃ x2v5 : Int, ∃ x2v6 : Int, v = (.agg #[(.int .i64 x2), (.bool x2v1), (.bool x2v2), (.bool x2v3), (.bool x2v4), (.int .i64 x2v5), (.int .i64 x2v6)]) ∧
 (RD PG (Instr.build 108 #[(0, (.int .i64 (2 : Int))), (1, (.bool true)), (5, (.int .i64 (9 : Int)))]) w fun v1 =>
 ∃ x3 : Int, ∃ x3v1 : Bool, ∃ x3v2 : Bool, ∃ x3v3 : Bool, ∃ x3v4 : Bool, ∃ x3v5 : Int, ∃ x3v6 : Int, v1 = (.agg #[(.int .i64 x3), (.bool x3v1), (.bool x3v2), (.bool x3v3), (.bool x3v4), (.int .i64 x3v5), (.int .i64 x3v6)]) ∧
 (RD PG (Instr.build 108 #[(0, (.int .i64 (3 : Int))), (1, (.bool true)), (5, (.int .i64 (4 : Int)))]) w fun v2 =>
 ∃ x4 : Int, ∃ x4v1 : Bool, ∃ x4v2 : Bool, ∃ x4v3 : Bool, ∃ x4v4 : Bool, ∃ x4v5 : Int, ∃ x4v6 : Int, v2 = (.agg #[(.int .i64 x4), (.bool x4v1), (.bool x4v2), (.bool x4v3), (.bool x4v4), (.int .i64 x4v5), (.int .i64 x4v6)]) ∧
 (RUNL PG (Instr.buildSlice 106 3 #[(0, (.agg #[(.int .i64 x2), (.bool x2v1), (.bool x2v2), (.bool x2v3), (.bool x2v4), (.int .i64 x2v5), (.int .i64 x2v6)])), (1, (.agg #[(.int .i64 x3), (.bool x3v1), (.bool x3v2), (.bool x3v3), (.bool x3v4), (.int .i64 x3v5), (.int .i64 x3v6)])), (2, (.agg #[(.int .i64 x4), (.bool x4v1), (.bool x4v2), (.bool x4v3), (.bool x4v4), (.int .i64 x4v5), (.int .i64 x4v6)]))]) w fun x5 x5N x5C w1 =>
 CALL PG 50 [(.int .i64 (1 : Int)), (.int .i64 (2 : Int)), (.slice x5 x5N x5C)] w1 fun v3 w2 =>
 ∃ (x6 : Option Addr) (x6N x6C : Nat), ∃ (x6v1 : Option Addr) (x6N1 x6C1 : Nat), ∃ (x6v2 : Option Addr) (x6N2 x6C2 : Nat), v3 = (.agg #[(.slice x6 x6N x6C), (.slice x6v1 x6N1 x6C1), (.slice x6v2 x6N2 x6C2)]) ∧
 (RUNA PG (Instr.alloc 110 true (.tuple #[])) w2 fun a1 w3 =>
 RUNU PG (storeVar 110 a1 (.agg #[(.slice x6 x6N x6C), (.slice x6v1 x6N1 x6C1), (.slice x6v2 x6N2 x6C2)])) w3 fun w4 =>
 RDL PG (loadVar 95 (Addr.add a1 0)) w4 fun x8 x8N x8C =>
 IFB ((x8N : Int) == (1 : Int))
 (RDL PG (loadVar 95 (Addr.add a1 0)) w4 fun x13 x13N x13C =>
 IDX x13 x13N (0 : Int) fun a14 =>
 RDI PG (loadVar 3 (Addr.add a14 (Int.toNat (0 : Int) * 1))) .i64 w4 fun x15 =>
 IFB (x15 == (3 : Int))
 (RDL PG (loadVar 95 (Addr.add a1 1)) w4 fun x20 x20N x20C =>
 IFB ((x20N : Int) == (0 : Int))
 (LETB true fun x0 =>
 Q (.bool x0) w4)
 (LETB false fun x0v1 =>
 Q (.bool x0v1) w4))
 (LETB false fun x0v2 =>
 Q (.bool x0v2) w4))
 (LETB false fun x0v3 =>
 Q (.bool x0v3) w4)))))
theorem eq51 : ∀  (w : World) (Q : Value → World → Prop), vcF PG TB Try.f51 .nil [] w Q = N51  w Q := by intros; kernel_rfl
theorem call51  {w : World} {Q : Value → World → Prop} (hN : N51  w Q) : CALL PG 51 [] w Q := calls_vc tabOk Try.func51 (by rw [eq51]; exact hN)

end Go.Br
