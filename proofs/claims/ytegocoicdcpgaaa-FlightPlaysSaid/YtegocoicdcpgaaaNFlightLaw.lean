/- What the code of some functions says, as the core reads it; each reading is checked by the kernel. -/
import Derived.Test.YtegocoicdcpgaaaBrSeat
set_option linter.unusedVariables false
set_option maxRecDepth 100000
namespace Go.Br
open Go Go.Proofs

/-- brougham/broughamlaw16.FlightEnds -/
def N6 (sizes : Option Addr) (sizesN sizesC : Nat) (tov : Int) (gone : Int) (w : World) (Q : Value → World → Prop) : Prop :=
 IFB (decide ((sizesN : Int) > (60 : Int)))
 (Q (.bool true) w)
 (CALL PG 30 [(.int .i64 (64 : Int))] w fun v w1 =>
 ∃ x18 : Option Addr, v = (.pointer x18) ∧
 (IFB (x18.isNone)
 (Q (.bool false) w1)
 (∃ I : Nat → Int → Int → World → Prop,
 (∃ m, I m (0 : Int) (0 : Int) w1) ∧
 (∀ m1 (atv : Int) (i : Int) (w2 : World), I m1 atv i w2 → (IFB (decide (i < (sizesN : Int)))
 (IDX sizes sizesN i fun a29 =>
 RD PG (loadVar 3 (Addr.add a29 (Int.toNat i * 1))) w2 fun v1 =>
 ∃ x30 : Int, v1 = (.int .i64 x30) ∧
 (IFB (decide (x30 < (1 : Int)))
 (Q (.bool true) w2)
 (IDX sizes sizesN i fun a35 =>
 RD PG (loadVar 3 (Addr.add a35 (Int.toNat i * 1))) w2 fun v2 =>
 ∃ x36 : Int, v2 = (.int .i64 x36) ∧
 (IFB (decide (x36 > (1000 : Int)))
 (Q (.bool true) w2)
 (IDX sizes sizesN i fun a43 =>
 RD PG (loadVar 3 (Addr.add a43 (Int.toNat i * 1))) w2 fun v3 =>
 ∃ x44 : Int, v3 = (.int .i64 x44) ∧
 (NEED ((3 : Int) ≠ 0)
 (RD PG (Instr.build 46 #[(0, (.int .u64 atv)), (1, (.int .i64 x44)), (3, (.int .i64 (Int.tmod i (3 : Int))))]) w2 fun v4 =>
 ∃ x47 : Int, ∃ x47v1 : Int, ∃ x47v2 : Bool, ∃ x47v3 : Int, ∃ x47v4 : Int, ∃ x47v5 : Int, ∃ x47v6 : Int, ∃ x47v7 : Bool, ∃ x47v8 : Bool, v4 = (.agg #[(.int .u64 x47), (.int .i64 x47v1), (.bool x47v2), (.int .i64 x47v3), (.int .u32 x47v4), (.int .i64 x47v5), (.int .i64 x47v6), (.bool x47v7), (.bool x47v8)]) ∧
 (CALL PG 31 [(.pointer x18), (.agg #[(.int .u64 x47), (.int .i64 x47v1), (.bool x47v2), (.int .i64 x47v3), (.int .u32 x47v4), (.int .i64 x47v5), (.int .i64 x47v6), (.bool x47v7), (.bool x47v8)])] w2 fun v5 w3 =>
 ∃ x48 : Bool, v5 = (.bool x48) ∧
 (IFB (!x48)
 (Q (.bool false) w3)
 (IDX sizes sizesN i fun a53 =>
 RD PG (loadVar 3 (Addr.add a53 (Int.toNat i * 1))) w3 fun v6 =>
 ∃ x54 : Int, v6 = (.int .i64 x54) ∧
 (LETI (IntKind.u64.wrap (atv + (IntKind.u64.wrap x54))) fun atv1 =>
 LETI (IntKind.i64.wrap (i + (1 : Int))) fun i1 =>
 ∃ m2, m2 < m1 ∧ I m2 atv1 i1 w3)))))))))))
 (CALL PG 32 [(.pointer x18), (.int .i64 gone)] w2 fun v7 w4 =>
 ∃ (x59 : Option Addr) (x59N x59C : Nat), v7 = (.slice x59 x59N x59C) ∧
 (CALL PG 33 [(.pointer x18), (.int .u64 tov)] w4 fun v8 w5 =>
 ∃ (x62 : Option Addr) (x62N x62C : Nat), v8 = (.slice x62 x62N x62C) ∧
 (∃ I1 : Nat → Int → Int → World → Prop,
 (∃ m3, I1 m3 (0 : Int) (0 : Int) w5) ∧
 (∀ m4 (sum : Int) (i2 : Int) (w6 : World), I1 m4 sum i2 w6 → (IFB (decide (i2 < (x62N : Int)))
 (IDX x62 x62N i2 fun a71 =>
 RD PG (loadVar 40 (Addr.add (Addr.add a71 (Int.toNat i2 * 9)) 0)) w6 fun v9 =>
 ∃ x73 : Int, v9 = (.int .u64 x73) ∧
 (IFB (x73 != sum)
 (Q (.bool false) w6)
 (IDX x62 x62N i2 fun a79 =>
 RD PG (loadVar 46 (Addr.add a79 (Int.toNat i2 * 9))) w6 fun v10 =>
 ∃ x80 : Int, ∃ x80v1 : Int, ∃ x80v2 : Bool, ∃ x80v3 : Int, ∃ x80v4 : Int, ∃ x80v5 : Int, ∃ x80v6 : Int, ∃ x80v7 : Bool, ∃ x80v8 : Bool, v10 = (.agg #[(.int .u64 x80), (.int .i64 x80v1), (.bool x80v2), (.int .i64 x80v3), (.int .u32 x80v4), (.int .i64 x80v5), (.int .i64 x80v6), (.bool x80v7), (.bool x80v8)]) ∧
 (CALL PG 34 [(.agg #[(.int .u64 x80), (.int .i64 x80v1), (.bool x80v2), (.int .i64 x80v3), (.int .u32 x80v4), (.int .i64 x80v5), (.int .i64 x80v6), (.bool x80v7), (.bool x80v8)])] w6 fun v11 w7 =>
 ∃ x81 : Int, v11 = (.int .u64 x81) ∧
 (IFB (decide (x81 > tov))
 (Q (.bool false) w7)
 (IDX x62 x62N i2 fun a87 =>
 RD PG (loadVar 46 (Addr.add a87 (Int.toNat i2 * 9))) w7 fun v12 =>
 ∃ x88 : Int, ∃ x88v1 : Int, ∃ x88v2 : Bool, ∃ x88v3 : Int, ∃ x88v4 : Int, ∃ x88v5 : Int, ∃ x88v6 : Int, ∃ x88v7 : Bool, ∃ x88v8 : Bool, v12 = (.agg #[(.int .u64 x88), (.int .i64 x88v1), (.bool x88v2), (.int .i64 x88v3), (.int .u32 x88v4), (.int .i64 x88v5), (.int .i64 x88v6), (.bool x88v7), (.bool x88v8)]) ∧
 (CALL PG 34 [(.agg #[(.int .u64 x88), (.int .i64 x88v1), (.bool x88v2), (.int .i64 x88v3), (.int .u32 x88v4), (.int .i64 x88v5), (.int .i64 x88v6), (.bool x88v7), (.bool x88v8)])] w7 fun v13 w8 =>
 ∃ x89 : Int, v13 = (.int .u64 x89) ∧
 (LETI x89 fun sum1 =>
 LETI (IntKind.i64.wrap (i2 + (1 : Int))) fun i3 =>
 ∃ m5, m5 < m4 ∧ I1 m5 sum1 i3 w8))))))))
 (CALL PG 35 [(.pointer x18)] w6 fun v14 w9 =>
 ∃ (x91 : Option Addr) (x91N x91C : Nat), v14 = (.slice x91 x91N x91C) ∧
 (∃ I2 : Nat → Int → Int → World → Prop,
 (∃ m6, I2 m6 sum (0 : Int) w9) ∧
 (∀ m7 (sum2 : Int) (i4 : Int) (w10 : World), I2 m7 sum2 i4 w10 → (IFB (decide (i4 < (x91N : Int)))
 (IDX x91 x91N i4 fun a100 =>
 RD PG (loadVar 40 (Addr.add (Addr.add a100 (Int.toNat i4 * 9)) 0)) (w10.drew) fun v15 =>
 ∃ x102 : Int, v15 = (.int .u64 x102) ∧
 (IFB (x102 != sum2)
 (Q (.bool false) (w10.drew))
 (IDX x91 x91N i4 fun a108 =>
 RD PG (loadVar 46 (Addr.add a108 (Int.toNat i4 * 9))) (w10.drew) fun v16 =>
 ∃ x109 : Int, ∃ x109v1 : Int, ∃ x109v2 : Bool, ∃ x109v3 : Int, ∃ x109v4 : Int, ∃ x109v5 : Int, ∃ x109v6 : Int, ∃ x109v7 : Bool, ∃ x109v8 : Bool, v16 = (.agg #[(.int .u64 x109), (.int .i64 x109v1), (.bool x109v2), (.int .i64 x109v3), (.int .u32 x109v4), (.int .i64 x109v5), (.int .i64 x109v6), (.bool x109v7), (.bool x109v8)]) ∧
 (CALL PG 34 [(.agg #[(.int .u64 x109), (.int .i64 x109v1), (.bool x109v2), (.int .i64 x109v3), (.int .u32 x109v4), (.int .i64 x109v5), (.int .i64 x109v6), (.bool x109v7), (.bool x109v8)])] (w10.drew) fun v17 w11 =>
 ∃ x110 : Int, v17 = (.int .u64 x110) ∧
 (IFB (decide (x110 ≤ tov))
 (Q (.bool false) w11)
 (IDX x91 x91N i4 fun a117 =>
 RD PG (loadVar 4 (Addr.add (Addr.add a117 (Int.toNat i4 * 9)) 8)) w11 fun v18 =>
 ∃ x119 : Bool, v18 = (.bool x119) ∧
 (IDX x91 x91N i4 fun a122 =>
 RD PG (loadVar 3 (Addr.add (Addr.add a122 (Int.toNat i4 * 9)) 3)) w11 fun v19 =>
 ∃ x124 : Int, v19 = (.int .i64 x124) ∧
 (IFB (!(x119 == (x124 == gone)))
 (Q (.bool false) w11)
 (IDX x91 x91N i4 fun a131 =>
 RD PG (loadVar 46 (Addr.add a131 (Int.toNat i4 * 9))) w11 fun v20 =>
 ∃ x132 : Int, ∃ x132v1 : Int, ∃ x132v2 : Bool, ∃ x132v3 : Int, ∃ x132v4 : Int, ∃ x132v5 : Int, ∃ x132v6 : Int, ∃ x132v7 : Bool, ∃ x132v8 : Bool, v20 = (.agg #[(.int .u64 x132), (.int .i64 x132v1), (.bool x132v2), (.int .i64 x132v3), (.int .u32 x132v4), (.int .i64 x132v5), (.int .i64 x132v6), (.bool x132v7), (.bool x132v8)]) ∧
 (CALL PG 34 [(.agg #[(.int .u64 x132), (.int .i64 x132v1), (.bool x132v2), (.int .i64 x132v3), (.int .u32 x132v4), (.int .i64 x132v5), (.int .i64 x132v6), (.bool x132v7), (.bool x132v8)])] w11 fun v21 w12 =>
 ∃ x133 : Int, v21 = (.int .u64 x133) ∧
 (LETI x133 fun sum3 =>
 LETI (IntKind.i64.wrap (i4 + (1 : Int))) fun i5 =>
 ∃ m8, m8 < m7 ∧ I2 m8 sum3 i5 w12)))))))))))
 (IFB (sum2 == atv)
 (IFB ((IntKind.i64.wrap ((x62N : Int) + (x91N : Int))) == (sizesN : Int))
 (CALL PG 36 [] w10 fun v22 w13 =>
 ∃ x148 : Bool, v22 = (.bool x148) ∧
 (LETB x148 fun x6 =>
 Q (.bool x6) w13))
 (LETB false fun x6v1 =>
 Q (.bool x6v1) w10))
 (LETB false fun x6v2 =>
 Q (.bool x6v2) w10))))))))))))))))
theorem eq6 : ∀ (sizes : Option Addr) (sizesN sizesC : Nat) (tov : Int) (gone : Int) (w : World) (Q : Value → World → Prop), vcF PG TB Try.f6 (.s .nil (.s .nil (.s .nil (.s .nil (.s .nil (.s (.s .nil (.u (.loop [(8, 40), (9, 3)] .nil))) (.s .nil (.s .nil (.s .nil (.s (.s .nil (.u (.loop [(11, 40), (12, 3)] .nil))) (.s .nil (.s (.s .nil (.u (.loop [(11, 40), (14, 3)] .nil))) .nil)))))))))))) [(.slice sizes sizesN sizesC), (.int .u64 tov), (.int .i64 gone)] w Q = N6 sizes sizesN sizesC tov gone w Q := by intros; kernel_rfl
theorem call6 {sizes : Option Addr} {sizesN sizesC : Nat} {tov : Int} {gone : Int} {w : World} {Q : Value → World → Prop} (hN : N6 sizes sizesN sizesC tov gone w Q) : CALL PG 6 [(.slice sizes sizesN sizesC), (.int .u64 tov), (.int .i64 gone)] w Q := calls_vc tabOk Try.func6 (by rw [eq6]; exact hN)

/-- brougham/broughamlaw16.alive -/
def N36  (w : World) (Q : Value → World → Prop) : Prop :=
 CALL PG 30 [(.int .i64 (4 : Int))] w fun v w1 =>
 ∃ x6 : Option Addr, v = (.pointer x6) ∧
 (IFB (x6.isNone)
 (Q (.bool false) w1)
 (RD PG (Instr.build 46 #[(1, (.int .i64 (5 : Int))), (3, (.int .i64 (1 : Int))), (4, (.int .u32 (10 : Int))), (5, (.int .i64 (3 : Int)))]) w1 fun v1 =>
 ∃ x10 : Int, ∃ x10v1 : Int, ∃ x10v2 : Bool, ∃ x10v3 : Int, ∃ x10v4 : Int, ∃ x10v5 : Int, ∃ x10v6 : Int, ∃ x10v7 : Bool, ∃ x10v8 : Bool, v1 = (.agg #[(.int .u64 x10), (.int .i64 x10v1), (.bool x10v2), (.int .i64 x10v3), (.int .u32 x10v4), (.int .i64 x10v5), (.int .i64 x10v6), (.bool x10v7), (.bool x10v8)]) ∧
 (CALL PG 31 [(.pointer x6), (.agg #[(.int .u64 x10), (.int .i64 x10v1), (.bool x10v2), (.int .i64 x10v3), (.int .u32 x10v4), (.int .i64 x10v5), (.int .i64 x10v6), (.bool x10v7), (.bool x10v8)])] w1 fun v2 w2 =>
 ∃ x11 : Bool, v2 = (.bool x11) ∧
 (LETB x11 fun okv =>
 CALL PG 92 [(.pointer x6), (.int .i64 (1 : Int)), (.int .i64 (7 : Int)), (.int .i64 (4 : Int))] w2 fun v3 w3 =>
 ∃ (x13 : Option Addr) (x13N x13C : Nat), v3 = (.slice x13 x13N x13C) ∧
 (CALL PG 76 [(.pointer x6)] w3 fun v4 w4 =>
 ∃ x16 : Int, ∃ x16v1 : Int, ∃ x16v2 : Bool, ∃ x16v3 : Int, ∃ x16v4 : Int, ∃ x16v5 : Int, ∃ x16v6 : Int, ∃ x16v7 : Bool, ∃ x16v8 : Bool, ∃ x16v9 : Bool, v4 = (.tuple #[(.agg #[(.int .u64 x16), (.int .i64 x16v1), (.bool x16v2), (.int .i64 x16v3), (.int .u32 x16v4), (.int .i64 x16v5), (.int .i64 x16v6), (.bool x16v7), (.bool x16v8)]), (.bool x16v9)]) ∧
 (RUN PG (Instr.alloc 46 true (.tuple #[])) w4 fun v5 w5 =>
 ∃ a4 : Addr, v5 = (.pointer (some a4)) ∧
 (RUNU PG (storeVar 46 a4 (.agg #[(.int .u64 x16), (.int .i64 x16v1), (.bool x16v2), (.int .i64 x16v3), (.int .u32 x16v4), (.int .i64 x16v5), (.int .i64 x16v6), (.bool x16v7), (.bool x16v8)])) w5 fun w6 =>
 LETB x16v9 fun isv =>
 IFB okv
 (IFB ((x13N : Int) == (1 : Int))
 (IDX x13 x13N (0 : Int) fun a27 =>
 RD PG (loadVar 4 (Addr.add (Addr.add a27 (Int.toNat (0 : Int) * 9)) 8)) w6 fun v6 =>
 ∃ x29 : Bool, v6 = (.bool x29) ∧
 (IFB x29
 (IFB isv
 (RD PG (loadVar 46 a4) w6 fun v7 =>
 ∃ x35 : Int, ∃ x35v1 : Int, ∃ x35v2 : Bool, ∃ x35v3 : Int, ∃ x35v4 : Int, ∃ x35v5 : Int, ∃ x35v6 : Int, ∃ x35v7 : Bool, ∃ x35v8 : Bool, v7 = (.agg #[(.int .u64 x35), (.int .i64 x35v1), (.bool x35v2), (.int .i64 x35v3), (.int .u32 x35v4), (.int .i64 x35v5), (.int .i64 x35v6), (.bool x35v7), (.bool x35v8)]) ∧
 (CALL PG 34 [(.agg #[(.int .u64 x35), (.int .i64 x35v1), (.bool x35v2), (.int .i64 x35v3), (.int .u32 x35v4), (.int .i64 x35v5), (.int .i64 x35v6), (.bool x35v7), (.bool x35v8)])] w6 fun v8 w7 =>
 ∃ x36 : Int, v8 = (.int .u64 x36) ∧
 (IFB (x36 == (5 : Int))
 (CALL PG 80 [(.pointer x6)] w7 fun v9 w8 =>
 ∃ x41 : Int, v9 = (.int .i64 x41) ∧
 (IFB (x41 == (1 : Int))
 (CALL PG 81 [(.pointer x6)] w8 fun v10 w9 =>
 ∃ x46 : Int, v10 = (.int .i64 x46) ∧
 (LETB (x46 == (3 : Int)) fun x0 =>
 Q (.bool x0) w9))
 (LETB false fun x0v1 =>
 Q (.bool x0v1) w8)))
 (LETB false fun x0v2 =>
 Q (.bool x0v2) w7))))
 (LETB false fun x0v3 =>
 Q (.bool x0v3) w6))
 (LETB false fun x0v4 =>
 Q (.bool x0v4) w6)))
 (LETB false fun x0v5 =>
 Q (.bool x0v5) w6))
 (LETB false fun x0v6 =>
 Q (.bool x0v6) w6))))))))
theorem eq36 : ∀  (w : World) (Q : Value → World → Prop), vcF PG TB Try.f36 .nil [] w Q = N36  w Q := by intros; kernel_rfl
theorem call36  {w : World} {Q : Value → World → Prop} (hN : N36  w Q) : CALL PG 36 [] w Q := calls_vc tabOk Try.func36 (by rw [eq36]; exact hN)

end Go.Br
