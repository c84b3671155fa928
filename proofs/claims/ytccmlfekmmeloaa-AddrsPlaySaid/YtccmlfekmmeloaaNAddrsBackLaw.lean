/- What the code of some functions says, as the core reads it; each reading is checked by the kernel. -/
import Derived.Test.YtccmlfekmmeloaaBrSeat
set_option linter.unusedVariables false
set_option maxRecDepth 100000
namespace Go.Br
open Go Go.Proofs

/-- brougham/broughamlaw20.AddrsBack -/
def N3 (l : Option Addr) (lN lC : Nat) (a : Int) (a1 : Int) (w : World) (Q : Value → World → Prop) : Prop :=
 RUNA PG (Instr.box 24 (.agg #[(.int .i64 a), (.int .i64 a1)])) w fun a3 w1 =>
 IFB (decide ((lN : Int) > (100 : Int)))
 (Q (.bool true) w1)
 (CALL PG 12 [(.int .i64 (8 : Int)), (.int .i64 (4 : Int))] w1 fun v w2 =>
 ∃ x18 : Option Addr, v = (.pointer x18) ∧
 (IFB (x18.isNone)
 (Q (.bool false) w2)
 (NILC x18 fun a23 =>
 RDP PG (loadVar 27 (Addr.add a23 0)) w2 fun x25 =>
 IFB (x25.isNone)
 (Q (.bool false) w2)
 (∃ I : Nat → Int → World → Prop,
 (∃ m, I m (0 : Int) w2) ∧
 (∀ m1 (i : Int) (w3 : World), I m1 i w3 → (IFB (decide (i < (lN : Int)))
 (IDX l lN i fun a37 =>
 RD PG (loadVar 24 (Addr.add (Addr.add a37 (Int.toNat i * 4)) 2)) w3 fun v1 =>
 ∃ x39 : Int, ∃ x39v1 : Int, v1 = (.agg #[(.int .i64 x39), (.int .i64 x39v1)]) ∧
 (CALL PG 13 [(.pointer x18), (.agg #[(.int .i64 x39), (.int .i64 x39v1)])] w3 fun v2 w4 =>
 ∃ x40 : Bool, v2 = (.bool x40) ∧
 (NILC x18 fun a42 =>
 RDP PG (loadVar 27 (Addr.add a42 0)) w4 fun x44 =>
 CALL PG 14 [(.pointer x44), (.int .i64 (16 : Int))] w4 fun v3 w5 =>
 v3 = (.tuple #[]) ∧
 (LETI (IntKind.i64.wrap (i + (1 : Int))) fun i1 =>
 ∃ m2, m2 < m1 ∧ I m2 i1 w5))))
 (CALL PG 15 [(.pointer x18)] w3 fun v4 w6 =>
 ∃ (x47 : Option Addr) (x47N x47C : Nat), v4 = (.slice x47 x47N x47C) ∧
 (∃ I1 : Nat → Bool → Int → World → Prop,
 (∃ m3, I1 m3 false (0 : Int) w6) ∧
 (∀ m4 (there : Bool) (i2 : Int) (w7 : World), I1 m4 there i2 w7 → (IFB (decide (i2 < (x47N : Int)))
 (IFB there
 (LETB true fun there1 =>
 LETI (IntKind.i64.wrap (i2 + (1 : Int))) fun i3 =>
 ∃ m5, m5 < m4 ∧ I1 m5 there1 i3 (w7.drew))
 (IDX x47 x47N i2 fun a58 =>
 RDI PG (loadVar 3 (Addr.add (Addr.add a58 (Int.toNat i2 * 2)) 0)) .i64 (w7.drew) fun x60 =>
 RDI PG (loadVar 3 (Addr.add a3 0)) .i64 (w7.drew) fun x62 =>
 LETB (x60 == x62) fun there2 =>
 LETI (IntKind.i64.wrap (i2 + (1 : Int))) fun i4 =>
 ∃ m6, m6 < m4 ∧ I1 m6 there2 i4 (w7.drew)))
 (IFB there
 (RDI PG (loadVar 3 (Addr.add a3 0)) .i64 w7 fun x68 =>
 CALL PG 16 [(.pointer x18), (.int .i64 x68)] w7 fun v5 w8 =>
 ∃ x69 : Bool, v5 = (.bool x69) ∧
 (IFB x69
 (RDI PG (loadVar 3 (Addr.add a3 0)) .i64 w8 fun x73 =>
 CALL PG 16 [(.pointer x18), (.int .i64 x73)] w8 fun v6 w9 =>
 ∃ x74 : Bool, v6 = (.bool x74) ∧
 (IFB (!x74)
 (CALL PG 15 [(.pointer x18)] w9 fun v7 w10 =>
 ∃ (x79 : Option Addr) (x79N x79C : Nat), v7 = (.slice x79 x79N x79C) ∧
 (IFB ((x79N : Int) == (IntKind.i64.wrap ((x47N : Int) - (1 : Int))))
 (CALL PG 17 [] w10 fun v8 w11 =>
 ∃ x87 : Bool, v8 = (.bool x87) ∧
 (LETB x87 fun x4 =>
 Q (.bool x4) w11))
 (LETB false fun x4v1 =>
 Q (.bool x4v1) w10)))
 (LETB false fun x4v2 =>
 Q (.bool x4v2) w9)))
 (LETB false fun x4v3 =>
 Q (.bool x4v3) w8)))
 (RDI PG (loadVar 3 (Addr.add a3 0)) .i64 w7 fun x91 =>
 CALL PG 16 [(.pointer x18), (.int .i64 x91)] w7 fun v9 w12 =>
 ∃ x92 : Bool, v9 = (.bool x92) ∧
 (IFB x92
 (Q (.bool false) w12)
 (RD PG (loadVar 24 a3) w12 fun v10 =>
 ∃ x94 : Int, ∃ x94v1 : Int, v10 = (.agg #[(.int .i64 x94), (.int .i64 x94v1)]) ∧
 (CALL PG 13 [(.pointer x18), (.agg #[(.int .i64 x94), (.int .i64 x94v1)])] w12 fun v11 w13 =>
 ∃ x95 : Bool, v11 = (.bool x95) ∧
 (LETB x95 fun okv =>
 ∃ R : Bool → World → Prop,
 (RDI PG (loadVar 3 (Addr.add a3 0)) .i64 w13 fun x97 =>
 IFB (decide (x97 ≥ (0 : Int)))
 (RDI PG (loadVar 3 (Addr.add a3 0)) .i64 w13 fun x101 =>
 IFB (decide (x101 ≤ (255 : Int)))
 (RDI PG (loadVar 3 (Addr.add a3 1)) .i64 w13 fun x106 =>
 IFB (decide (x106 ≥ (0 : Int)))
 (RDI PG (loadVar 3 (Addr.add a3 1)) .i64 w13 fun x111 =>
 IFB (decide (x111 < (4 : Int)))
 (LETB (decide ((x47N : Int) < (8 : Int))) fun may =>
 R may w13)
 (LETB false fun may1 =>
 R may1 w13))
 (LETB false fun may2 =>
 R may2 w13))
 (LETB false fun may3 =>
 R may3 w13))
 (LETB false fun may4 =>
 R may4 w13)) ∧
 (∀ (may5 : Bool) (w14 : World), R may5 w14 → (RDI PG (loadVar 3 (Addr.add a3 0)) .i64 w14 fun x121 =>
 CALL PG 16 [(.pointer x18), (.int .i64 x121)] w14 fun v12 w15 =>
 ∃ x122 : Bool, v12 = (.bool x122) ∧
 (LETB x122 fun gone =>
 CALL PG 15 [(.pointer x18)] w15 fun v13 w16 =>
 ∃ (x124 : Option Addr) (x124N x124C : Nat), v13 = (.slice x124 x124N x124C) ∧
 (IFB (!(okv == may5))
 (Q (.bool false) w16)
 (IFB (!(gone == okv))
 (Q (.bool false) w16)
 (IFB ((x124N : Int) != (x47N : Int))
 (Q (.bool false) w16)
 (∃ I2 : Nat → Int → World → Prop,
 (∃ m7, I2 m7 (0 : Int) w16) ∧
 (∀ m8 (i5 : Int) (w17 : World), I2 m8 i5 w17 → (IFB (decide (i5 < (x124N : Int)))
 (IDX x124 x124N i5 fun a148 =>
 RD PG (loadVar 24 (Addr.add a148 (Int.toNat i5 * 2))) (w17.drew) fun v14 =>
 ∃ x149 : Int, ∃ x149v1 : Int, v14 = (.agg #[(.int .i64 x149), (.int .i64 x149v1)]) ∧
 (IDX x47 x47N i5 fun a152 =>
 RD PG (loadVar 24 (Addr.add a152 (Int.toNat i5 * 2))) (w17.drew) fun v15 =>
 ∃ x153 : Int, ∃ x153v1 : Int, v15 = (.agg #[(.int .i64 x153), (.int .i64 x153v1)]) ∧
 (RDB PG (do eqGuard .neq 24 (.tmp 149) (.tmp 153) (.agg #[(.int .i64 x149), (.int .i64 x149v1)]) (.agg #[(.int .i64 x153), (.int .i64 x153v1)]); binOp .neq 24 (.agg #[(.int .i64 x149), (.int .i64 x149v1)]) (.agg #[(.int .i64 x153), (.int .i64 x153v1)])) (w17.drew) fun x154 =>
 IFB x154
 (Q (.bool false) (w17.drew))
 (LETI (IntKind.i64.wrap (i5 + (1 : Int))) fun i6 =>
 ∃ m9, m9 < m8 ∧ I2 m9 i6 (w17.drew)))))
 (CALL PG 17 [] w17 fun v16 w18 =>
 ∃ x155 : Bool, v16 = (.bool x155) ∧
 (LETB x155 fun x4v4 =>
 Q (.bool x4v4) w18)))))))))))))))))))))))))))
theorem eq3 : ∀ (l : Option Addr) (lN lC : Nat) (a : Int) (a1 : Int) (w : World) (Q : Value → World → Prop), vcF PG TB Try.f3 (.s .nil (.s .nil (.s .nil (.s .nil (.s (.s .nil (.u (.loop [(6, 3)] .nil))) (.s .nil (.s .nil (.s (.s .nil (.u (.loop [(8, 4), (9, 3)] .nil))) (.s .nil (.s .nil (.s .nil (.cut [(11, 4)] .nil (.s .nil (.s .nil (.s .nil (.s (.s .nil (.u (.loop [(14, 3)] .nil))) .nil)))))))))))))))) [(.slice l lN lC), (.agg #[(.int .i64 a), (.int .i64 a1)])] w Q = N3 l lN lC a a1 w Q := by intros; kernel_rfl
theorem call3 {l : Option Addr} {lN lC : Nat} {a : Int} {a1 : Int} {w : World} {Q : Value → World → Prop} (hN : N3 l lN lC a a1 w Q) : CALL PG 3 [(.slice l lN lC), (.agg #[(.int .i64 a), (.int .i64 a1)])] w Q := calls_vc tabOk Try.func3 (by rw [eq3]; exact hN)

/-- brougham/broughamlaw20.alive -/
def N17  (w : World) (Q : Value → World → Prop) : Prop :=
 CALL PG 12 [(.int .i64 (2 : Int)), (.int .i64 (3 : Int))] w fun v w1 =>
 ∃ x5 : Option Addr, v = (.pointer x5) ∧
 (IFB (x5.isNone)
 (Q (.bool false) w1)
 (NILC x5 fun a10 =>
 RDP PG (loadVar 27 (Addr.add a10 0)) w1 fun x12 =>
 IFB (x12.isNone)
 (Q (.bool false) w1)
 (RD PG (Instr.build 24 #[(0, (.int .i64 (5 : Int))), (1, (.int .i64 (1 : Int)))]) w1 fun v1 =>
 ∃ x16 : Int, ∃ x16v1 : Int, v1 = (.agg #[(.int .i64 x16), (.int .i64 x16v1)]) ∧
 (CALL PG 13 [(.pointer x5), (.agg #[(.int .i64 x16), (.int .i64 x16v1)])] w1 fun v2 w2 =>
 ∃ x17 : Bool, v2 = (.bool x17) ∧
 (LETB x17 fun a =>
 RD PG (Instr.build 24 #[(0, (.int .i64 (5 : Int))), (1, (.int .i64 (2 : Int)))]) w2 fun v3 =>
 ∃ x19 : Int, ∃ x19v1 : Int, v3 = (.agg #[(.int .i64 x19), (.int .i64 x19v1)]) ∧
 (CALL PG 13 [(.pointer x5), (.agg #[(.int .i64 x19), (.int .i64 x19v1)])] w2 fun v4 w3 =>
 ∃ x20 : Bool, v4 = (.bool x20) ∧
 (LETB x20 fun b =>
 CALL PG 15 [(.pointer x5)] w3 fun v5 w4 =>
 ∃ (x22 : Option Addr) (x22N x22C : Nat), v5 = (.slice x22 x22N x22C) ∧
 (IFB a
 (IFB b
 (IFB ((x22N : Int) == (1 : Int))
 (IDX x22 x22N (0 : Int) fun a34 =>
 RDI PG (loadVar 3 (Addr.add (Addr.add a34 (Int.toNat (0 : Int) * 2)) 1)) .i64 w4 fun x36 =>
 IFB (x36 == (2 : Int))
 (NILC x5 fun a41 =>
 RDP PG (loadVar 27 (Addr.add a41 0)) w4 fun x43 =>
 CALL PG 60 [(.pointer x43)] w4 fun v6 w5 =>
 ∃ x44 : Int, v6 = (.int .i64 x44) ∧
 (LETB (x44 == (32 : Int)) fun x0 =>
 Q (.bool x0) w5))
 (LETB false fun x0v1 =>
 Q (.bool x0v1) w4))
 (LETB false fun x0v2 =>
 Q (.bool x0v2) w4))
 (LETB false fun x0v3 =>
 Q (.bool x0v3) w4))
 (LETB false fun x0v4 =>
 Q (.bool x0v4) w4)))))))))
theorem eq17 : ∀  (w : World) (Q : Value → World → Prop), vcF PG TB Try.f17 .nil [] w Q = N17  w Q := by intros; kernel_rfl
theorem call17  {w : World} {Q : Value → World → Prop} (hN : N17  w Q) : CALL PG 17 [] w Q := calls_vc tabOk Try.func17 (by rw [eq17]; exact hN)

end Go.Br
