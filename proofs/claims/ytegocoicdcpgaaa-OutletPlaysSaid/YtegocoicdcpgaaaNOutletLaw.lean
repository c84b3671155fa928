/- What the code of some functions says, as the core reads it; each reading is checked by the kernel. -/
import Derived.Test.YtegocoicdcpgaaaBrSeat
set_option linter.unusedVariables false
set_option maxRecDepth 100000
namespace Go.Br
open Go Go.Proofs

/-- brougham/broughamlaw17.OutletDone -/
def N9 (sizev : Int) (b : Option Addr) (bN bC : Nat) (tov : Int) (w : World) (Q : Value → World → Prop) : Prop :=
 IFB (decide (sizev < (1 : Int)))
 (Q (.bool true) w)
 (IFB (decide (sizev > (300 : Int)))
 (Q (.bool true) w)
 (IFB (decide ((bN : Int) > (300 : Int)))
 (Q (.bool true) w)
 (CALL PG 40 [(.int .i64 sizev)] w fun v w1 =>
 ∃ x28 : Option Addr, ∃ x28v1 : Int, v = (.tuple #[(.pointer x28), (.int .i64 x28v1)]) ∧
 (LETI x28v1 fun e =>
 IFB (e != (0 : Int))
 (Q (.bool false) w1)
 (IFB (x28.isNone)
 (Q (.bool false) w1)
 (NILC x28 fun a39 =>
 RD PG (loadVar 24 (Addr.add a39 0)) w1 fun v1 =>
 ∃ x41 : Option Addr, v1 = (.pointer x41) ∧
 (IFB (x41.isNone)
 (Q (.bool false) w1)
 (CALL PG 41 [(.pointer x28), (.slice b bN bC)] w1 fun v2 w2 =>
 ∃ x47 : Int, ∃ x47v1 : Int, v2 = (.tuple #[(.int .i64 x47), (.int .i64 x47v1)]) ∧
 (LETI x47 fun n =>
 LETI x47v1 fun x =>
 CALL PG 47 [(.pointer x28)] w2 fun v3 w3 =>
 v3 = (.tuple #[]) ∧
 (RUN PG (Instr.buildSlice 28 1 #[(0, (.int .u8 (120 : Int)))]) w3 fun v4 w4 =>
 ∃ (x54 : Option Addr) (x54N x54C : Nat), v4 = (.slice x54 x54N x54C) ∧
 (RUN PG (convert 28 28 (.slice x54 x54N x54C)) w4 fun v5 w5 =>
 ∃ (x55 : Option Addr) (x55N x55C : Nat), v5 = (.slice x55 x55N x55C) ∧
 (CALL PG 41 [(.pointer x28), (.slice x55 x55N x55C)] w5 fun v6 w6 =>
 ∃ x56 : Int, ∃ x56v1 : Int, v6 = (.tuple #[(.int .i64 x56), (.int .i64 x56v1)]) ∧
 (LETI x56 fun m =>
 LETI x56v1 fun f =>
 CALL PG 45 [(.pointer x28)] w6 fun v7 w7 =>
 ∃ x60 : Int, v7 = (.int .u64 x60) ∧
 (LETI x60 fun endv =>
 CALL PG 44 [(.pointer x28), (.int .u64 tov)] w7 fun v8 w8 =>
 ∃ x63 : Bool, v8 = (.bool x63) ∧
 (LETB x63 fun okv =>
 ∃ R : World → Prop,
 (IFB (m != (0 : Int))
 (Q (.bool false) w8)
 (IFB (f != (212 : Int))
 (Q (.bool false) w8)
 (IFB (endv != (IntKind.u64.wrap n))
 (Q (.bool false) w8)
 (CALL PG 48 [(.pointer x28)] w8 fun v9 w9 =>
 ∃ x78 : Int, v9 = (.int .u64 x78) ∧
 (IFB (x78 != (IntKind.u64.wrap (endv + (1 : Int))))
 (Q (.bool false) w9)
 (IFB (decide (tov > (0 : Int)))
 (IFB (!(okv == (decide (tov ≤ (IntKind.u64.wrap (endv + (1 : Int)))))))
 (Q (.bool false) w9)
 (CALL PG 49 [(.pointer x28)] w9 fun v10 w10 =>
 ∃ x97 : Bool, v10 = (.bool x97) ∧
 (IFB (!(x97 == (tov == (IntKind.u64.wrap (endv + (1 : Int))))))
 (Q (.bool false) w10)
 (R w10))))
 (IFB (!(okv == false))
 (Q (.bool false) w9)
 (CALL PG 49 [(.pointer x28)] w9 fun v11 w11 =>
 ∃ x97v1 : Bool, v11 = (.bool x97v1) ∧
 (IFB (!(x97v1 == (tov == (IntKind.u64.wrap (endv + (1 : Int))))))
 (Q (.bool false) w11)
 (R w11)))))))))) ∧
 (∀  (w12 : World), R w12 → (CALL PG 49 [(.pointer x28)] w12 fun v12 w13 =>
 ∃ x105 : Bool, v12 = (.bool x105) ∧
 (IFB (!x105)
 (CALL PG 44 [(.pointer x28), (.int .u64 (IntKind.u64.wrap (endv + (1 : Int))))] w13 fun v13 w14 =>
 ∃ x110 : Bool, v13 = (.bool x110) ∧
 (IFB x110
 (CALL PG 49 [(.pointer x28)] w14 fun v14 w15 =>
 ∃ x113 : Bool, v14 = (.bool x113) ∧
 (IFB x113
 (CALL PG 46 [] w15 fun v15 w16 =>
 ∃ x116 : Bool, v15 = (.bool x116) ∧
 (LETB x116 fun x6 =>
 Q (.bool x6) w16))
 (LETB false fun x6v1 =>
 Q (.bool x6v1) w15)))
 (LETB false fun x6v2 =>
 Q (.bool x6v2) w14)))
 (NILC x28 fun a119 =>
 RD PG (loadVar 24 (Addr.add a119 0)) w13 fun v16 =>
 ∃ x121 : Option Addr, v16 = (.pointer x121) ∧
 (CALL PG 19 [(.pointer x121)] w13 fun v17 w17 =>
 ∃ x122 : Int, v17 = (.int .i64 x122) ∧
 (IFB (x122 == (0 : Int))
 (CALL PG 44 [(.pointer x28), (.int .u64 (IntKind.u64.wrap (endv + (1 : Int))))] w17 fun v18 w18 =>
 ∃ x128 : Bool, v18 = (.bool x128) ∧
 (IFB (!x128)
 (CALL PG 43 [(.pointer x28)] w18 fun v19 w19 =>
 ∃ x133 : Int, v19 = (.int .u64 x133) ∧
 (IFB (x133 == endv)
 (CALL PG 46 [] w19 fun v20 w20 =>
 ∃ x138 : Bool, v20 = (.bool x138) ∧
 (LETB x138 fun x6v3 =>
 Q (.bool x6v3) w20))
 (LETB false fun x6v4 =>
 Q (.bool x6v4) w19)))
 (LETB false fun x6v5 =>
 Q (.bool x6v5) w18)))
 (LETB false fun x6v6 =>
 Q (.bool x6v6) w17))))))))))))))))))))))
theorem eq9 : ∀ (sizev : Int) (b : Option Addr) (bN bC : Nat) (tov : Int) (w : World) (Q : Value → World → Prop), vcF PG TB Try.f9 (.s .nil (.s .nil (.s .nil (.s .nil (.s .nil (.s .nil (.s .nil (.s .nil (.s .nil (.cut [] .nil .nil)))))))))) [(.int .i64 sizev), (.slice b bN bC), (.int .u64 tov)] w Q = N9 sizev b bN bC tov w Q := by intros; kernel_rfl
theorem call9 {sizev : Int} {b : Option Addr} {bN bC : Nat} {tov : Int} {w : World} {Q : Value → World → Prop} (hN : N9 sizev b bN bC tov w Q) : CALL PG 9 [(.int .i64 sizev), (.slice b bN bC), (.int .u64 tov)] w Q := calls_vc tabOk Try.func9 (by rw [eq9]; exact hN)

/-- brougham/broughamlaw17.alive -/
def N46  (w : World) (Q : Value → World → Prop) : Prop :=
 CALL PG 40 [(.int .i64 (4 : Int))] w fun v w1 =>
 ∃ x10 : Option Addr, ∃ x10v1 : Int, v = (.tuple #[(.pointer x10), (.int .i64 x10v1)]) ∧
 (LETI x10v1 fun e =>
 IFB (e != (0 : Int))
 (Q (.bool false) w1)
 (IFB (x10.isNone)
 (Q (.bool false) w1)
 (NILC x10 fun a21 =>
 RD PG (loadVar 24 (Addr.add a21 0)) w1 fun v1 =>
 ∃ x23 : Option Addr, v1 = (.pointer x23) ∧
 (IFB (x23.isNone)
 (Q (.bool false) w1)
 (RUN PG (Instr.buildSlice 28 5 #[(0, (.int .u8 (97 : Int))), (1, (.int .u8 (98 : Int))), (2, (.int .u8 (99 : Int))), (3, (.int .u8 (100 : Int))), (4, (.int .u8 (101 : Int)))]) w1 fun v2 w2 =>
 ∃ (x28 : Option Addr) (x28N x28C : Nat), v2 = (.slice x28 x28N x28C) ∧
 (RUN PG (convert 28 28 (.slice x28 x28N x28C)) w2 fun v3 w3 =>
 ∃ (x29 : Option Addr) (x29N x29C : Nat), v3 = (.slice x29 x29N x29C) ∧
 (CALL PG 41 [(.pointer x10), (.slice x29 x29N x29C)] w3 fun v4 w4 =>
 ∃ x30 : Int, ∃ x30v1 : Int, v4 = (.tuple #[(.int .i64 x30), (.int .i64 x30v1)]) ∧
 (LETI x30 fun a =>
 LETI x30v1 fun x =>
 CALL PG 44 [(.pointer x10), (.int .u64 (2 : Int))] w4 fun v5 w5 =>
 ∃ x34 : Bool, v5 = (.bool x34) ∧
 (LETB x34 fun b =>
 RUN PG (Instr.buildSlice 28 1 #[(0, (.int .u8 (101 : Int)))]) w5 fun v6 w6 =>
 ∃ (x37 : Option Addr) (x37N x37C : Nat), v6 = (.slice x37 x37N x37C) ∧
 (RUN PG (convert 28 28 (.slice x37 x37N x37C)) w6 fun v7 w7 =>
 ∃ (x38 : Option Addr) (x38N x38C : Nat), v7 = (.slice x38 x38N x38C) ∧
 (CALL PG 41 [(.pointer x10), (.slice x38 x38N x38C)] w7 fun v8 w8 =>
 ∃ x39 : Int, ∃ x39v1 : Int, v8 = (.tuple #[(.int .i64 x39), (.int .i64 x39v1)]) ∧
 (LETI x39 fun c =>
 LETI x39v1 fun x1 =>
 CALL PG 42 [(.pointer x10), (.int .u64 (3 : Int)), (.int .i64 (9 : Int))] w8 fun v9 w9 =>
 ∃ (x43 : Option Addr) (x43N x43C : Nat), v9 = (.slice x43 x43N x43C) ∧
 (RD PG (convert 28 9 (.slice x43 x43N x43C)) w9 fun v10 =>
 ∃ x44 : ByteArray, v10 = (.string x44) ∧
 (LETS x44 fun d =>
 CALL PG 47 [(.pointer x10)] w9 fun v11 w10 =>
 v11 = (.tuple #[]) ∧
 (IFB (a == (4 : Int))
 (IFB b
 (IFB (c == (1 : Int))
 (IFB (d.toList == (ByteArray.mk #[100, 101]).toList)
 (CALL PG 48 [(.pointer x10)] w10 fun v12 w11 =>
 ∃ x62 : Int, v12 = (.int .u64 x62) ∧
 (IFB (x62 == (6 : Int))
 (CALL PG 62 [(.pointer x10)] w11 fun v13 w12 =>
 ∃ x67 : Bool, v13 = (.bool x67) ∧
 (IFB x67
 (CALL PG 49 [(.pointer x10)] w12 fun v14 w13 =>
 ∃ x71 : Bool, v14 = (.bool x71) ∧
 (LETB (!x71) fun x0 =>
 Q (.bool x0) w13))
 (LETB false fun x0v1 =>
 Q (.bool x0v1) w12)))
 (LETB false fun x0v2 =>
 Q (.bool x0v2) w11)))
 (LETB false fun x0v3 =>
 Q (.bool x0v3) w10))
 (LETB false fun x0v4 =>
 Q (.bool x0v4) w10))
 (LETB false fun x0v5 =>
 Q (.bool x0v5) w10))
 (LETB false fun x0v6 =>
 Q (.bool x0v6) w10))))))))))))))))
theorem eq46 : ∀  (w : World) (Q : Value → World → Prop), vcF PG TB Try.f46 .nil [] w Q = N46  w Q := by intros; kernel_rfl
theorem call46  {w : World} {Q : Value → World → Prop} (hN : N46  w Q) : CALL PG 46 [] w Q := calls_vc tabOk Try.func46 (by rw [eq46]; exact hN)

end Go.Br
