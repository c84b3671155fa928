/- What the code of some functions says, as the core reads it; each reading is checked by the kernel. -/
import Derived.Test.YtccmlfekmmeloaaBrSeat
set_option linter.unusedVariables false
set_option maxRecDepth 100000
namespace Go.Br
open Go Go.Proofs

/-- brougham/broughamlaw18.InletOrder -/
def N5 (sizev : Int) (s : Option Addr) (sN sC : Nat) (l : Option Addr) (lN lC : Nat) (w : World) (Q : Value → World → Prop) : Prop :=
 IFB (decide (sizev < (1 : Int)))
 (Q (.bool true) w)
 (IFB (decide (sizev > (200 : Int)))
 (Q (.bool true) w)
 (IFB (decide ((sN : Int) > (500 : Int)))
 (Q (.bool true) w)
 (CALL PG 24 [(.slice l lN lC)] w fun v w1 =>
 ∃ x35 : Bool, v = (.bool x35) ∧
 (IFB x35
 (Q (.bool true) w1)
 (CALL PG 25 [(.int .i64 sizev), (.int .i64 (4 : Int))] w1 fun v1 w2 =>
 ∃ x39 : Option Addr, ∃ x39v1 : Int, v1 = (.tuple #[(.pointer x39), (.int .i64 x39v1)]) ∧
 (LETI x39v1 fun e =>
 IFB (e != (0 : Int))
 (Q (.bool false) w2)
 (IFB (x39.isNone)
 (Q (.bool false) w2)
 (NILC x39 fun a50 =>
 RDP PG (loadVar 64 (Addr.add a50 0)) w2 fun x52 =>
 IFB (x52.isNone)
 (Q (.bool false) w2)
 (∃ I : Nat → ByteArray → Int → World → Prop,
 (∃ m, I m (ByteArray.mk #[]) (0 : Int) w2) ∧
 (∀ m1 (out : ByteArray) (i : Int) (w3 : World), I m1 out i w3 → (IFB (decide (i < (lN : Int)))
 (IDX l lN i fun a63 =>
 RDI PG (loadVar 42 (Addr.add (Addr.add a63 (Int.toNat i * 5)) 2)) .u64 w3 fun x65 =>
 NEED ((IntKind.u64.wrap (IntKind.i64.wrap ((sN : Int) + (1 : Int)))) ≠ 0)
 (LETI (IntKind.i64.wrap (Int.tmod x65 (IntKind.u64.wrap (IntKind.i64.wrap ((sN : Int) + (1 : Int)))))) fun fromv =>
 IDX l lN i fun a75 =>
 RDI PG (loadVar 3 (Addr.add (Addr.add a75 (Int.toNat i * 5)) 1)) .i64 w3 fun x77 =>
 NEED ((20 : Int) ≠ 0)
 (NEED ((20 : Int) ≠ 0)
 (LETI (IntKind.i64.wrap (fromv + (Int.tmod (IntKind.i64.wrap ((Int.tmod x77 (20 : Int)) + (20 : Int))) (20 : Int)))) fun tov =>
 ∃ R : Int → World → Prop,
 (IFB (decide (tov > (sN : Int)))
 (LETI (sN : Int) fun tov1 =>
 R tov1 w3)
 (R tov w3)) ∧
 (∀ (tov2 : Int) (w4 : World), R tov2 w4 → (NEED (0 ≤ fromv ∧ fromv ≤ tov2 ∧ tov2 ≤ ((sC : Nat) : Int))
 (CALL PG 26 [(.pointer x39), (.int .u64 (IntKind.u64.wrap fromv)), (.slice (cutA s sC 1 fromv) (Int.toNat tov2 - Int.toNat fromv) (sC - Int.toNat fromv))] w4 fun v2 w5 =>
 ∃ x95 : Bool, v2 = (.bool x95) ∧
 (∃ R1 : ByteArray → World → Prop,
 (IDX l lN i fun a98 =>
 RDI PG (loadVar 3 (Addr.add (Addr.add a98 (Int.toNat i * 5)) 0)) .i64 w5 fun x100 =>
 NEED ((3 : Int) ≠ 0)
 (IFB ((Int.tmod x100 (3 : Int)) == (0 : Int))
 (IDX l lN i fun a107 =>
 RDI PG (loadVar 3 (Addr.add (Addr.add a107 (Int.toNat i * 5)) 1)) .i64 w5 fun x109 =>
 NEED ((9 : Int) ≠ 0)
 (NEED ((9 : Int) ≠ 0)
 (CALL PG 27 [(.pointer x39), (.int .i64 (Int.tmod (IntKind.i64.wrap ((Int.tmod x109 (9 : Int)) + (9 : Int))) (9 : Int)))] w5 fun v3 w6 =>
 ∃ (x113 : Option Addr) (x113N x113C : Nat), ∃ x113v1 : Int, v3 = (.tuple #[(.slice x113 x113N x113C), (.int .i64 x113v1)]) ∧
 (LETI x113v1 fun x =>
 RDT PG (convert 58 9 (.slice x113 x113N x113C)) w6 fun x118 =>
 NEED (((out.size + x118.size : Nat) : Int) ≤ IntKind.i64.max)
 (LETS (out ++ x118) fun out1 =>
 R1 out1 w6)))))
 (R1 out w5))) ∧
 (∀ (out2 : ByteArray) (w7 : World), R1 out2 w7 → (IFB (decide (((out2.size : Nat) : Int) > (sN : Int)))
 (Q (.bool false) w7)
 (NEED (0 ≤ (0 : Int) ∧ (0 : Int) ≤ ((out2.size : Nat) : Int) ∧ ((out2.size : Nat) : Int) ≤ ((sC : Nat) : Int))
 (RDT PG (convert 58 9 (.slice (cutA s sC 1 (0 : Int)) (Int.toNat ((out2.size : Nat) : Int) - Int.toNat (0 : Int)) (sC - Int.toNat (0 : Int)))) w7 fun x130 =>
 IFB (!(x130.toList == out2.toList))
 (Q (.bool false) w7)
 (LETI (IntKind.i64.wrap (i + (1 : Int))) fun i1 =>
 ∃ m2, m2 < m1 ∧ I m2 out2 i1 w7)))))))))))))
 (∃ I1 : Nat → ByteArray → Int → World → Prop,
 (∃ m3, I1 m3 out (0 : Int) w3) ∧
 (∀ m4 (out3 : ByteArray) (i2 : Int) (w8 : World), I1 m4 out3 i2 w8 → (IFB (decide (i2 < (sN : Int)))
 (∃ R2 : World → Prop,
 (CALL PG 28 [(.pointer x39)] w8 fun v4 w9 =>
 ∃ x141 : Int, v4 = (.int .u64 x141) ∧
 (IFB (decide (x141 ≤ (IntKind.u64.wrap i2)))
 (NEED (0 ≤ i2 ∧ i2 ≤ (IntKind.i64.wrap (i2 + (1 : Int))) ∧ (IntKind.i64.wrap (i2 + (1 : Int))) ≤ ((sC : Nat) : Int))
 (CALL PG 26 [(.pointer x39), (.int .u64 (IntKind.u64.wrap i2)), (.slice (cutA s sC 1 i2) (Int.toNat (IntKind.i64.wrap (i2 + (1 : Int))) - Int.toNat i2) (sC - Int.toNat i2))] w9 fun v5 w10 =>
 ∃ x154 : Bool, v5 = (.bool x154) ∧
 (IFB (!x154)
 (Q (.bool false) w10)
 (R2 w10))))
 (R2 w9))) ∧
 (∀  (w11 : World), R2 w11 → (CALL PG 27 [(.pointer x39), (.int .i64 sizev)] w11 fun v6 w12 =>
 ∃ (x160 : Option Addr) (x160N x160C : Nat), ∃ x160v1 : Int, v6 = (.tuple #[(.slice x160 x160N x160C), (.int .i64 x160v1)]) ∧
 (LETI x160v1 fun x1 =>
 RDT PG (convert 58 9 (.slice x160 x160N x160C)) w12 fun x165 =>
 NEED (((out3.size + x165.size : Nat) : Int) ≤ IntKind.i64.max)
 (LETS (out3 ++ x165) fun out4 =>
 LETI (IntKind.i64.wrap (i2 + (1 : Int))) fun i3 =>
 ∃ m5, m5 < m4 ∧ I1 m5 out4 i3 w12)))))
 (CALL PG 29 [(.pointer x39), (.int .u64 (IntKind.u64.wrap (sN : Int)))] w8 fun v7 w13 =>
 ∃ x171 : Bool, v7 = (.bool x171) ∧
 (IFB (!x171)
 (Q (.bool false) w13)
 (CALL PG 27 [(.pointer x39), (.int .i64 sizev)] w13 fun v8 w14 =>
 ∃ (x176 : Option Addr) (x176N x176C : Nat), ∃ x176v1 : Int, v8 = (.tuple #[(.slice x176 x176N x176C), (.int .i64 x176v1)]) ∧
 (LETI x176v1 fun f =>
 RDT PG (convert 58 9 (.slice x176 x176N x176C)) w14 fun x181 =>
 NEED (((out3.size + x181.size : Nat) : Int) ≤ IntKind.i64.max)
 (LETS (out3 ++ x181) fun out5 =>
 CALL PG 27 [(.pointer x39), (.int .i64 (1 : Int))] w14 fun v9 w15 =>
 ∃ (x185 : Option Addr) (x185N x185C : Nat), ∃ x185v1 : Int, v9 = (.tuple #[(.slice x185 x185N x185C), (.int .i64 x185v1)]) ∧
 (LETI x185v1 fun g =>
 RDT PG (convert 58 9 (.slice s sN sC)) w15 fun x190 =>
 IFB (out5.toList == x190.toList)
 (IFB (f == (211 : Int))
 (IFB (g == (211 : Int))
 (CALL PG 30 [(.pointer x39)] w15 fun v10 w16 =>
 ∃ x207 : Bool, v10 = (.bool x207) ∧
 (IFB x207
 (CALL PG 31 [] w16 fun v11 w17 =>
 ∃ x210 : Bool, v11 = (.bool x210) ∧
 (LETB x210 fun x6 =>
 Q (.bool x6) w17))
 (LETB false fun x6v1 =>
 Q (.bool x6v1) w16)))
 (LETB false fun x6v2 =>
 Q (.bool x6v2) w15))
 (IFB (decide ((x176N : Int) > (0 : Int)))
 (IFB (g == (211 : Int))
 (CALL PG 30 [(.pointer x39)] w15 fun v12 w18 =>
 ∃ x207v1 : Bool, v12 = (.bool x207v1) ∧
 (IFB x207v1
 (CALL PG 31 [] w18 fun v13 w19 =>
 ∃ x210v1 : Bool, v13 = (.bool x210v1) ∧
 (LETB x210v1 fun x6v3 =>
 Q (.bool x6v3) w19))
 (LETB false fun x6v4 =>
 Q (.bool x6v4) w18)))
 (LETB false fun x6v5 =>
 Q (.bool x6v5) w15))
 (LETB false fun x6v6 =>
 Q (.bool x6v6) w15)))
 (LETB false fun x6v7 =>
 Q (.bool x6v7) w15)))))))))))))))))))))
theorem eq5 : ∀ (sizev : Int) (s : Option Addr) (sN sC : Nat) (l : Option Addr) (lN lC : Nat) (w : World) (Q : Value → World → Prop), vcF PG TB Try.f5 (.s .nil (.s .nil (.s .nil (.s .nil (.s .nil (.s (.s .nil (.u (.loop [(9, 9), (10, 3)] (.s .nil (.s (.u (.s .nil (.s .nil (.cut [(12, 3)] .nil (.s .nil (.cut [(9, 9)] .nil .nil)))))) .nil))))) (.s (.s .nil (.u (.loop [(9, 9), (15, 3)] (.s .nil (.s (.u (.cut [] .nil .nil)) .nil))))) .nil))))))) [(.int .i64 sizev), (.slice s sN sC), (.slice l lN lC)] w Q = N5 sizev s sN sC l lN lC w Q := by intros; kernel_rfl
theorem call5 {sizev : Int} {s : Option Addr} {sN sC : Nat} {l : Option Addr} {lN lC : Nat} {w : World} {Q : Value → World → Prop} (hN : N5 sizev s sN sC l lN lC w Q) : CALL PG 5 [(.int .i64 sizev), (.slice s sN sC), (.slice l lN lC)] w Q := calls_vc tabOk Try.func5 (by rw [eq5]; exact hN)

/-- brougham/broughamlaw18.great -/
def N24 (l : Option Addr) (lN lC : Nat) (w : World) (Q : Value → World → Prop) : Prop :=
 IFB (decide ((lN : Int) > (60 : Int)))
 (Q (.bool true) w)
 (∃ I : Nat → Int → World → Prop,
 (∃ m, I m (0 : Int) w) ∧
 (∀ m1 (i : Int) (w1 : World), I m1 i w1 → (IFB (decide (i < (lN : Int)))
 (IDX l lN i fun a15 =>
 RDL PG (loadVar 58 (Addr.add (Addr.add a15 (Int.toNat i * 5)) 4)) w1 fun x17 x17N x17C =>
 IFB (decide ((x17N : Int) > (300 : Int)))
 (Q (.bool true) w1)
 (LETI (IntKind.i64.wrap (i + (1 : Int))) fun i1 =>
 ∃ m2, m2 < m1 ∧ I m2 i1 w1))
 (Q (.bool false) w1))))
theorem eq24 : ∀ (l : Option Addr) (lN lC : Nat) (w : World) (Q : Value → World → Prop), vcF PG TB Try.f24 (.s .nil (.s .nil (.s (.s .nil (.u (.loop [(3, 3)] .nil))) .nil))) [(.slice l lN lC)] w Q = N24 l lN lC w Q := by intros; kernel_rfl
theorem call24 {l : Option Addr} {lN lC : Nat} {w : World} {Q : Value → World → Prop} (hN : N24 l lN lC w Q) : CALL PG 24 [(.slice l lN lC)] w Q := calls_vc tabOk Try.func24 (by rw [eq24]; exact hN)

/-- brougham/broughamlaw18.alive -/
def N31  (w : World) (Q : Value → World → Prop) : Prop :=
 CALL PG 25 [(.int .i64 (8 : Int)), (.int .i64 (4 : Int))] w fun v w1 =>
 ∃ x9 : Option Addr, ∃ x9v1 : Int, v = (.tuple #[(.pointer x9), (.int .i64 x9v1)]) ∧
 (LETI x9v1 fun e =>
 IFB (e != (0 : Int))
 (Q (.bool false) w1)
 (IFB (x9.isNone)
 (Q (.bool false) w1)
 (NILC x9 fun a20 =>
 RDP PG (loadVar 64 (Addr.add a20 0)) w1 fun x22 =>
 IFB (x22.isNone)
 (Q (.bool false) w1)
 (RUNL PG (Instr.buildSlice 58 2 #[(0, (.int .u8 (99 : Int))), (1, (.int .u8 (100 : Int)))]) w1 fun x26 x26N x26C w2 =>
 RUNL PG (convert 58 58 (.slice x26 x26N x26C)) w2 fun x27 x27N x27C w3 =>
 CALL PG 26 [(.pointer x9), (.int .u64 (2 : Int)), (.slice x27 x27N x27C)] w3 fun v1 w4 =>
 ∃ x28 : Bool, v1 = (.bool x28) ∧
 (LETB x28 fun a =>
 CALL PG 28 [(.pointer x9)] w4 fun v2 w5 =>
 ∃ x30 : Int, v2 = (.int .u64 x30) ∧
 (LETI x30 fun b =>
 RUNL PG (Instr.buildSlice 58 2 #[(0, (.int .u8 (97 : Int))), (1, (.int .u8 (98 : Int)))]) w5 fun x32 x32N x32C w6 =>
 RUNL PG (convert 58 58 (.slice x32 x32N x32C)) w6 fun x33 x33N x33C w7 =>
 CALL PG 26 [(.pointer x9), (.int .u64 (0 : Int)), (.slice x33 x33N x33C)] w7 fun v3 w8 =>
 ∃ x34 : Bool, v3 = (.bool x34) ∧
 (LETB x34 fun c =>
 CALL PG 27 [(.pointer x9), (.int .i64 (9 : Int))] w8 fun v4 w9 =>
 ∃ (x37 : Option Addr) (x37N x37C : Nat), ∃ x37v1 : Int, v4 = (.tuple #[(.slice x37 x37N x37C), (.int .i64 x37v1)]) ∧
 (LETI x37v1 fun f =>
 IFB a
 (IFB (b == (0 : Int))
 (IFB c
 (RDT PG (convert 58 9 (.slice x37 x37N x37C)) w9 fun x50 =>
 IFB (x50.toList == (ByteArray.mk #[97, 98, 99, 100]).toList)
 (IFB (f == (0 : Int))
 (CALL PG 34 [(.pointer x9)] w9 fun v5 w10 =>
 ∃ x59 : Int, v5 = (.int .u64 x59) ∧
 (IFB (x59 == (4 : Int))
 (CALL PG 37 [(.pointer x9)] w10 fun v6 w11 =>
 ∃ x64 : Int, v6 = (.int .u64 x64) ∧
 (LETB (x64 == (12 : Int)) fun x0 =>
 Q (.bool x0) w11))
 (LETB false fun x0v1 =>
 Q (.bool x0v1) w10)))
 (LETB false fun x0v2 =>
 Q (.bool x0v2) w9))
 (LETB false fun x0v3 =>
 Q (.bool x0v3) w9))
 (LETB false fun x0v4 =>
 Q (.bool x0v4) w9))
 (LETB false fun x0v5 =>
 Q (.bool x0v5) w9))
 (LETB false fun x0v6 =>
 Q (.bool x0v6) w9)))))))))
theorem eq31 : ∀  (w : World) (Q : Value → World → Prop), vcF PG TB Try.f31 .nil [] w Q = N31  w Q := by intros; kernel_rfl
theorem call31  {w : World} {Q : Value → World → Prop} (hN : N31  w Q) : CALL PG 31 [] w Q := calls_vc tabOk Try.func31 (by rw [eq31]; exact hN)

end Go.Br
