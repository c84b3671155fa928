/- What the code of some functions says, as the core reads it; each reading is checked by the kernel. -/
import Derived.Test.YtccmlfekmmeloaaDoorBrSeat
set_option linter.unusedVariables false
set_option maxRecDepth 100000
namespace Go.Br
open Go Go.Proofs

/-- brougham/broughamlaw37.ReportJoins -/
def N5 (l : Option Addr) (lN lC : Nat) (m : Option Addr) (mN mC : Nat) (part : Int) (w : World) (Q : Value → World → Prop) : Prop :=
 IFB (decide ((lN : Int) > (200 : Int)))
 (Q (.bool true) w)
 (IFB (decide ((mN : Int) > (200 : Int)))
 (Q (.bool true) w)
 (CALL PG 6 [(.slice l lN lC)] w fun v w1 =>
 ∃ x23 : Int, ∃ x23v1 : Int, ∃ x23v2 : Int, ∃ x23v3 : Int, v = (.agg #[(.int .i64 x23), (.int .i64 x23v1), (.int .i64 x23v2), (.int .i64 x23v3)]) ∧
 (CALL PG 6 [(.slice m mN mC)] w1 fun v1 w2 =>
 ∃ x25 : Int, ∃ x25v1 : Int, ∃ x25v2 : Int, ∃ x25v3 : Int, v1 = (.agg #[(.int .i64 x25), (.int .i64 x25v1), (.int .i64 x25v2), (.int .i64 x25v3)]) ∧
 (RUNA PG (Instr.alloc 24 true (.tuple #[])) w2 fun a7 w3 =>
 RUNA PG (Instr.alloc 24 true (.tuple #[])) w3 fun a8 w4 =>
 RUNU PG (storeVar 24 a7 (.agg #[(.int .i64 x23), (.int .i64 x23v1), (.int .i64 x23v2), (.int .i64 x23v3)])) w4 fun w5 =>
 RUNU PG (storeVar 24 a8 (.agg #[(.int .i64 x25), (.int .i64 x25v1), (.int .i64 x25v2), (.int .i64 x25v3)])) w5 fun w6 =>
 RUNL PG (Instr.buildSlice 22 0 #[]) w6 fun x26 x26N x26C w7 =>
 RUNL PG (Builtin.append_ #[22, 22] 22 #[(.slice x26 x26N x26C), (.slice l lN lC)]) w7 fun x28 x28N x28C w8 =>
 RUNL PG (Builtin.append_ #[22, 22] 22 #[(.slice x28 x28N x28C), (.slice m mN mC)]) w8 fun x30 x30N x30C w9 =>
 CALL PG 6 [(.slice x30 x30N x30C)] w9 fun v2 w10 =>
 ∃ x32 : Int, ∃ x32v1 : Int, ∃ x32v2 : Int, ∃ x32v3 : Int, v2 = (.agg #[(.int .i64 x32), (.int .i64 x32v1), (.int .i64 x32v2), (.int .i64 x32v3)]) ∧
 (RUNA PG (Instr.alloc 24 true (.tuple #[])) w10 fun a10 w11 =>
 RUNU PG (storeVar 24 a10 (.agg #[(.int .i64 x32), (.int .i64 x32v1), (.int .i64 x32v2), (.int .i64 x32v3)])) w11 fun w12 =>
 RDI PG (loadVar 3 (Addr.add a10 0)) .i64 w12 fun x34 =>
 RDI PG (loadVar 3 (Addr.add a7 0)) .i64 w12 fun x36 =>
 RDI PG (loadVar 3 (Addr.add a8 0)) .i64 w12 fun x38 =>
 IFB (x34 != (IntKind.i64.wrap (x36 + x38)))
 (Q (.bool false) w12)
 (RDI PG (loadVar 3 (Addr.add a10 3)) .i64 w12 fun x43 =>
 RDI PG (loadVar 3 (Addr.add a7 3)) .i64 w12 fun x45 =>
 RDI PG (loadVar 3 (Addr.add a8 3)) .i64 w12 fun x47 =>
 IFB (x43 != (IntKind.i64.wrap (x45 + x47)))
 (Q (.bool false) w12)
 (IFB ((x30N : Int) == (0 : Int))
 (RD PG (loadVar 24 a10) w12 fun v3 =>
 ∃ x54 : Int, ∃ x54v1 : Int, ∃ x54v2 : Int, ∃ x54v3 : Int, v3 = (.agg #[(.int .i64 x54), (.int .i64 x54v1), (.int .i64 x54v2), (.int .i64 x54v3)]) ∧
 (RD PG (Instr.build 24 #[]) w12 fun v4 =>
 ∃ x55 : Int, ∃ x55v1 : Int, ∃ x55v2 : Int, ∃ x55v3 : Int, v4 = (.agg #[(.int .i64 x55), (.int .i64 x55v1), (.int .i64 x55v2), (.int .i64 x55v3)]) ∧
 (RDB PG (do eqGuard .eql 24 (.tmp 54) (.tmp 55) (.agg #[(.int .i64 x54), (.int .i64 x54v1), (.int .i64 x54v2), (.int .i64 x54v3)]) (.agg #[(.int .i64 x55), (.int .i64 x55v1), (.int .i64 x55v2), (.int .i64 x55v3)]); binOp .eql 24 (.agg #[(.int .i64 x54), (.int .i64 x54v1), (.int .i64 x54v2), (.int .i64 x54v3)]) (.agg #[(.int .i64 x55), (.int .i64 x55v1), (.int .i64 x55v2), (.int .i64 x55v3)])) w12 fun x56 =>
 IFB x56
 (CALL PG 11 [] w12 fun v5 w13 =>
 ∃ x58 : Bool, v5 = (.bool x58) ∧
 (LETB x58 fun x6 =>
 Q (.bool x6) w13))
 (LETB false fun x6v1 =>
 Q (.bool x6v1) w12))))
 (CALL PG 9 [(.int .i64 (0 : Int)), (.slice x30 x30N x30C)] w12 fun v6 w14 =>
 ∃ x61 : Int, v6 = (.int .i64 x61) ∧
 (CALL PG 9 [(.int .i64 (100 : Int)), (.slice x30 x30N x30C)] w14 fun v7 w15 =>
 ∃ x63 : Int, v7 = (.int .i64 x63) ∧
 (LETI x61 fun least =>
 LETI x63 fun most =>
 CALL PG 9 [(.int .i64 part), (.slice x30 x30N x30C)] w15 fun v8 w16 =>
 ∃ x66 : Int, v8 = (.int .i64 x66) ∧
 (LETI x66 fun p =>
 ∃ S : World → Prop, S (w16.drew) ∧
 (IFB (decide (p ≥ least))
 (IFB (decide (p ≤ most))
 (RDS PG (loadVar 24 a10) S fun v9 =>
 ∃ x76 : Int, ∃ x76v1 : Int, ∃ x76v2 : Int, ∃ x76v3 : Int, v9 = (.agg #[(.int .i64 x76), (.int .i64 x76v1), (.int .i64 x76v2), (.int .i64 x76v3)]) ∧
 (RDSI PG (loadVar 3 (Addr.add a10 1)) .i64 S fun x79 =>
 CALL PG 8 [(.agg #[(.int .i64 x76), (.int .i64 x76v1), (.int .i64 x76v2), (.int .i64 x76v3)])] (w16.drew) fun v10 w17 =>
 ∃ x77 : Int, v10 = (.int .i64 x77) ∧
 (∃ S1 : World → Prop, (∀ x, S1 x → S x) ∧ S1 w17 ∧
 (IFB (decide (x77 ≥ x79))
 (RDS PG (loadVar 24 a10) S1 fun v11 =>
 ∃ x83 : Int, ∃ x83v1 : Int, ∃ x83v2 : Int, ∃ x83v3 : Int, v11 = (.agg #[(.int .i64 x83), (.int .i64 x83v1), (.int .i64 x83v2), (.int .i64 x83v3)]) ∧
 (RDSI PG (loadVar 3 (Addr.add a10 2)) .i64 S1 fun x86 =>
 CALL PG 8 [(.agg #[(.int .i64 x83), (.int .i64 x83v1), (.int .i64 x83v2), (.int .i64 x83v3)])] w17 fun v12 w18 =>
 ∃ x84 : Int, v12 = (.int .i64 x84) ∧
 (∃ S2 : World → Prop, (∀ x, S2 x → S1 x) ∧ S2 w18 ∧
 (IFB (decide (x84 ≤ x86))
 (RDSI PG (loadVar 3 (Addr.add a10 1)) .i64 S2 fun x91 =>
 RDSI PG (loadVar 3 (Addr.add a10 2)) .i64 S2 fun x93 =>
 IFB (decide (x91 ≤ x93))
 (CALL PG 11 [] w18 fun v13 w19 =>
 ∃ x97 : Bool, v13 = (.bool x97) ∧
 (LETB x97 fun x6v2 =>
 Q (.bool x6v2) w19))
 (LETB false fun x6v3 =>
 Q (.bool x6v3) w18))
 (LETB false fun x6v4 =>
 Q (.bool x6v4) w18)))))
 (LETB false fun x6v5 =>
 Q (.bool x6v5) w17)))))
 (LETB false fun x6v6 =>
 Q (.bool x6v6) (w16.drew)))
 (LETB false fun x6v7 =>
 Q (.bool x6v7) (w16.drew))))))))))))))
theorem eq5 : ∀ (l : Option Addr) (lN lC : Nat) (m : Option Addr) (mN mC : Nat) (part : Int) (w : World) (Q : Value → World → Prop), vcF PG TB Tryd.f5 .nil [(.slice l lN lC), (.slice m mN mC), (.int .i64 part)] w Q = N5 l lN lC m mN mC part w Q := by intros; kernel_rfl
theorem call5 {l : Option Addr} {lN lC : Nat} {m : Option Addr} {mN mC : Nat} {part : Int} {w : World} {Q : Value → World → Prop} (hN : N5 l lN lC m mN mC part w Q) : CALL PG 5 [(.slice l lN lC), (.slice m mN mC), (.int .i64 part)] w Q := calls_vc tabOk Tryd.func5 (by rw [eq5]; exact hN)

end Go.Br
