/- What the code of some functions says, as the core reads it; each reading is checked by the kernel. -/
import Derived.Test.YtegocoicdcpgaaaBrSeat
set_option linter.unusedVariables false
set_option maxRecDepth 100000
namespace Go.Br
open Go Go.Proofs

/-- brougham/broughamlaw05.RingOrder -/
def N3 (sizev : Int) (l : Option Addr) (lN lC : Nat) (reads : Option Addr) (readsN readsC : Nat) (w : World) (Q : Value → World → Prop) : Prop :=
 IFB (decide (sizev < (1 : Int)))
 (Q (.bool true) w)
 (IFB (decide (sizev > (1000 : Int)))
 (Q (.bool true) w)
 (IFB (decide ((lN : Int) > (60 : Int)))
 (Q (.bool true) w)
 (CALL PG 15 [(.int .i64 sizev)] w fun v w1 =>
 ∃ x26 : Option Addr, ∃ x26v1 : Int, v = (.tuple #[(.pointer x26), (.int .i64 x26v1)]) ∧
 (LETI x26v1 fun e =>
 IFB (e != (0 : Int))
 (Q (.bool false) w1)
 (IFB (x26.isNone)
 (Q (.bool false) w1)
 (∃ I : Nat → ByteArray → ByteArray → Int → World → Prop,
 (∃ m, I m (ByteArray.mk #[]) (ByteArray.mk #[]) (0 : Int) w1) ∧
 (∀ m1 (inv : ByteArray) (out : ByteArray) (i : Int) (w2 : World), I m1 inv out i w2 → (IFB (decide (i < (lN : Int)))
 (IDX l lN i fun a43 =>
 RD PG (loadVar 28 (Addr.add a43 (Int.toNat i * 1))) w2 fun v1 =>
 ∃ (x44 : Option Addr) (x44N x44C : Nat), v1 = (.slice x44 x44N x44C) ∧
 (IFB (decide ((x44N : Int) > (300 : Int)))
 (Q (.bool true) w2)
 (IDX l lN i fun a50 =>
 RD PG (loadVar 28 (Addr.add a50 (Int.toNat i * 1))) w2 fun v2 =>
 ∃ (x51 : Option Addr) (x51N x51C : Nat), v2 = (.slice x51 x51N x51C) ∧
 (CALL PG 16 [(.pointer x26), (.slice x51 x51N x51C)] w2 fun v3 w3 =>
 ∃ x52 : Int, v3 = (.int .i64 x52) ∧
 (LETI x52 fun n =>
 ∃ R : World → Prop,
 (IFB (decide (n < (0 : Int)))
 (Q (.bool false) w3)
 (IDX l lN i fun a59 =>
 RD PG (loadVar 28 (Addr.add a59 (Int.toNat i * 1))) w3 fun v4 =>
 ∃ (x60 : Option Addr) (x60N x60C : Nat), v4 = (.slice x60 x60N x60C) ∧
 (IFB (decide (n > (x60N : Int)))
 (Q (.bool false) w3)
 (IDX l lN i fun a68 =>
 RD PG (loadVar 28 (Addr.add a68 (Int.toNat i * 1))) w3 fun v5 =>
 ∃ (x69 : Option Addr) (x69N x69C : Nat), v5 = (.slice x69 x69N x69C) ∧
 (IFB (decide (n < (x69N : Int)))
 (CALL PG 17 [(.pointer x26)] w3 fun v6 w4 =>
 ∃ x74 : Int, v6 = (.int .i64 x74) ∧
 (IFB (x74 != (0 : Int))
 (Q (.bool false) w4)
 (R w4)))
 (R w3)))))) ∧
 (∀  (w5 : World), R w5 → (IDX l lN i fun a81 =>
 RD PG (loadVar 28 (Addr.add a81 (Int.toNat i * 1))) w5 fun v7 =>
 ∃ (x82 : Option Addr) (x82N x82C : Nat), v7 = (.slice x82 x82N x82C) ∧
 (NEED (0 ≤ (0 : Int) ∧ (0 : Int) ≤ n ∧ n ≤ ((x82C : Nat) : Int))
 (RD PG (convert 28 9 (.slice (cutA x82 x82C 1 (0 : Int)) (Int.toNat n - Int.toNat (0 : Int)) (x82C - Int.toNat (0 : Int)))) w5 fun v8 =>
 ∃ x85 : ByteArray, v8 = (.string x85) ∧
 (NEED (((inv.size + x85.size : Nat) : Int) ≤ IntKind.i64.max)
 (LETS (inv ++ x85) fun inv1 =>
 ∃ R1 : ByteArray → World → Prop,
 (IFB (decide (i < (readsN : Int)))
 (IDX reads readsN i fun a95 =>
 RD PG (loadVar 3 (Addr.add a95 (Int.toNat i * 1))) w5 fun v9 =>
 ∃ x96 : Int, v9 = (.int .i64 x96) ∧
 (CALL PG 18 [(.pointer x26), (.int .i64 x96)] w5 fun v10 w6 =>
 ∃ (x97 : Option Addr) (x97N x97C : Nat), v10 = (.slice x97 x97N x97C) ∧
 (RD PG (convert 28 9 (.slice x97 x97N x97C)) w6 fun v11 =>
 ∃ x98 : ByteArray, v11 = (.string x98) ∧
 (NEED (((out.size + x98.size : Nat) : Int) ≤ IntKind.i64.max)
 (LETS (out ++ x98) fun out1 =>
 R1 out1 w6)))))
 (R1 out w5)) ∧
 (∀ (out2 : ByteArray) (w7 : World), R1 out2 w7 → (CALL PG 19 [(.pointer x26)] w7 fun v12 w8 =>
 ∃ x103 : Int, v12 = (.int .i64 x103) ∧
 (IFB ((IntKind.i64.wrap (((out2.size : Nat) : Int) + x103)) != ((inv1.size : Nat) : Int))
 (Q (.bool false) w8)
 (CALL PG 19 [(.pointer x26)] w8 fun v13 w9 =>
 ∃ x110 : Int, v13 = (.int .i64 x110) ∧
 (IFB (decide (x110 > sizev))
 (Q (.bool false) w9)
 (NEED (0 ≤ (0 : Int) ∧ (0 : Int) ≤ ((out2.size : Nat) : Int) ∧ ((out2.size : Nat) : Int) ≤ inv1.size)
 (IFB (!((cutS inv1 (0 : Int) ((out2.size : Nat) : Int)).toList == out2.toList))
 (Q (.bool false) w9)
 (LETI (IntKind.i64.wrap (i + (1 : Int))) fun i1 =>
 ∃ m2, m2 < m1 ∧ I m2 inv1 out2 i1 w9)))))))))))))))))))
 (CALL PG 18 [(.pointer x26), (.int .i64 sizev)] w2 fun v14 w10 =>
 ∃ (x125 : Option Addr) (x125N x125C : Nat), v14 = (.slice x125 x125N x125C) ∧
 (RD PG (convert 28 9 (.slice x125 x125N x125C)) w10 fun v15 =>
 ∃ x126 : ByteArray, v15 = (.string x126) ∧
 (NEED (((out.size + x126.size : Nat) : Int) ≤ IntKind.i64.max)
 (LETS (out ++ x126) fun out3 =>
 IFB (inv.toList == out3.toList)
 (CALL PG 20 [] w10 fun v16 w11 =>
 ∃ x132 : Bool, v16 = (.bool x132) ∧
 (LETB x132 fun x6 =>
 Q (.bool x6) w11))
 (LETB false fun x6v1 =>
 Q (.bool x6v1) w10)))))))))))))
theorem eq3 : ∀ (sizev : Int) (l : Option Addr) (lN lC : Nat) (reads : Option Addr) (readsN readsC : Nat) (w : World) (Q : Value → World → Prop), vcF PG TB Try.f3 (.s .nil (.s .nil (.s .nil (.s .nil (.s .nil (.s (.s .nil (.u (.loop [(9, 9), (10, 9), (11, 3)] (.s .nil (.s (.u (.s .nil (.s .nil (.cut [] .nil (.s .nil (.cut [(10, 9)] .nil .nil)))))) .nil))))) .nil)))))) [(.int .i64 sizev), (.slice l lN lC), (.slice reads readsN readsC)] w Q = N3 sizev l lN lC reads readsN readsC w Q := by intros; kernel_rfl
theorem call3 {sizev : Int} {l : Option Addr} {lN lC : Nat} {reads : Option Addr} {readsN readsC : Nat} {w : World} {Q : Value → World → Prop} (hN : N3 sizev l lN lC reads readsN readsC w Q) : CALL PG 3 [(.int .i64 sizev), (.slice l lN lC), (.slice reads readsN readsC)] w Q := calls_vc tabOk Try.func3 (by rw [eq3]; exact hN)

/-- brougham/broughamlaw05.RingSets -/
def N4 (sizev : Int) (a : Option Addr) (aN aC : Nat) (b : Option Addr) (bN bC : Nat) (w : World) (Q : Value → World → Prop) : Prop :=
 IFB (decide (sizev < (1 : Int)))
 (Q (.bool true) w)
 (IFB (decide (sizev > (500 : Int)))
 (Q (.bool true) w)
 (IFB (decide ((aN : Int) > (300 : Int)))
 (Q (.bool true) w)
 (IFB (decide ((bN : Int) > (300 : Int)))
 (Q (.bool true) w)
 (CALL PG 15 [(.int .i64 sizev)] w fun v w1 =>
 ∃ x32 : Option Addr, ∃ x32v1 : Int, v = (.tuple #[(.pointer x32), (.int .i64 x32v1)]) ∧
 (LETI x32v1 fun e =>
 IFB (e != (0 : Int))
 (Q (.bool false) w1)
 (IFB (x32.isNone)
 (Q (.bool false) w1)
 (CALL PG 16 [(.pointer x32), (.slice a aN aC)] w1 fun v1 w2 =>
 ∃ x43 : Int, v1 = (.int .i64 x43) ∧
 (LETI x43 fun n =>
 NEED ((2 : Int) ≠ 0)
 (CALL PG 21 [(.pointer x32), (.int .i64 (IntKind.i64.wrap (Int.tdiv n (2 : Int))))] w2 fun v2 w3 =>
 ∃ x47 : Int, v2 = (.int .i64 x47) ∧
 (LETI x47 fun k =>
 CALL PG 19 [(.pointer x32)] w3 fun v3 w4 =>
 ∃ x49 : Int, v3 = (.int .i64 x49) ∧
 (LETI x49 fun there =>
 CALL PG 22 [(.pointer x32), (.int .i64 there), (.slice b bN bC)] w4 fun v4 w5 =>
 ∃ x53 : Bool, v4 = (.bool x53) ∧
 (LETB x53 fun okv =>
 ∃ S : World → Prop, S (w5.drew) ∧
 (IFB (!(okv == (decide ((bN : Int) ≤ (IntKind.i64.wrap (sizev - there))))))
 (Q (.bool false) (w5.drew))
 (CALL PG 19 [(.pointer x32)] (w5.drew) fun v5 w6 =>
 ∃ x64 : Int, v5 = (.int .i64 x64) ∧
 (∃ S1 : World → Prop, (∀ x, S1 x → S x) ∧ S1 w6 ∧
 (IFB (x64 != there)
 (Q (.bool false) w6)
 (NEED (0 ≤ k ∧ k ≤ n ∧ n ≤ ((aC : Nat) : Int))
 (RDS PG (convert 28 9 (.slice (cutA a aC 1 k) (Int.toNat n - Int.toNat k) (aC - Int.toNat k))) S1 fun v6 =>
 ∃ x77 : ByteArray, v6 = (.string x77) ∧
 (CALL PG 23 [(.pointer x32), (.int .i64 (0 : Int)), (.int .i64 sizev)] w6 fun v7 w7 =>
 ∃ (x71 : Option Addr) (x71N x71C : Nat), v7 = (.slice x71 x71N x71C) ∧
 (∃ S2 : World → Prop, (∀ x, S2 x → S1 x) ∧ S2 w7 ∧
 (RDS PG (convert 28 9 (.slice x71 x71N x71C)) S2 fun v8 =>
 ∃ x72 : ByteArray, v8 = (.string x72) ∧
 (IFB (!(x72.toList == x77.toList))
 (Q (.bool false) w7)
 (IFB (!okv)
 (CALL PG 20 [] w7 fun v9 w8 =>
 ∃ x82 : Bool, v9 = (.bool x82) ∧
 (LETB x82 fun x6 =>
 Q (.bool x6) w8))
 (CALL PG 24 [(.pointer x32), (.int .i64 (bN : Int))] w7 fun v10 w9 =>
 ∃ x86 : Bool, v10 = (.bool x86) ∧
 (LETB x86 fun grown =>
 ∃ S3 : World → Prop, S3 (w9.drew) ∧
 (IFB grown
 (NEED (0 ≤ k ∧ k ≤ n ∧ n ≤ ((aC : Nat) : Int))
 (RDS PG (convert 28 9 (.slice (cutA a aC 1 k) (Int.toNat n - Int.toNat k) (aC - Int.toNat k))) S3 fun v11 =>
 ∃ x97 : ByteArray, v11 = (.string x97) ∧
 (RDS PG (convert 28 9 (.slice b bN bC)) S3 fun v12 =>
 ∃ x99 : ByteArray, v12 = (.string x99) ∧
 (NEED (((x97.size + x99.size : Nat) : Int) ≤ IntKind.i64.max)
 (CALL PG 18 [(.pointer x32), (.int .i64 sizev)] (w9.drew) fun v13 w10 =>
 ∃ (x91 : Option Addr) (x91N x91C : Nat), v13 = (.slice x91 x91N x91C) ∧
 (∃ S4 : World → Prop, (∀ x, S4 x → S3 x) ∧ S4 w10 ∧
 (RDS PG (convert 28 9 (.slice x91 x91N x91C)) S4 fun v14 =>
 ∃ x92 : ByteArray, v14 = (.string x92) ∧
 (IFB (x92.toList == (x97 ++ x99).toList)
 (CALL PG 17 [(.pointer x32)] w10 fun v15 w11 =>
 ∃ x105 : Int, v15 = (.int .i64 x105) ∧
 (∃ S5 : World → Prop, (∀ x, S5 x → S4 x) ∧ S5 w11 ∧
 (IFB (x105 == sizev)
 (CALL PG 20 [] w11 fun v16 w12 =>
 ∃ x110 : Bool, v16 = (.bool x110) ∧
 (LETB x110 fun x6v1 =>
 Q (.bool x6v1) w12))
 (LETB false fun x6v2 =>
 Q (.bool x6v2) w11))))
 (LETB false fun x6v3 =>
 Q (.bool x6v3) w10)))))))))
 (LETB false fun x6v4 =>
 Q (.bool x6v4) (w9.drew))))))))))))))))))))))))))))
theorem eq4 : ∀ (sizev : Int) (a : Option Addr) (aN aC : Nat) (b : Option Addr) (bN bC : Nat) (w : World) (Q : Value → World → Prop), vcF PG TB Try.f4 .nil [(.int .i64 sizev), (.slice a aN aC), (.slice b bN bC)] w Q = N4 sizev a aN aC b bN bC w Q := by intros; kernel_rfl
theorem call4 {sizev : Int} {a : Option Addr} {aN aC : Nat} {b : Option Addr} {bN bC : Nat} {w : World} {Q : Value → World → Prop} (hN : N4 sizev a aN aC b bN bC w Q) : CALL PG 4 [(.int .i64 sizev), (.slice a aN aC), (.slice b bN bC)] w Q := calls_vc tabOk Try.func4 (by rw [eq4]; exact hN)

/-- brougham/broughamlaw05.alive -/
def N20  (w : World) (Q : Value → World → Prop) : Prop :=
 CALL PG 15 [(.int .i64 (4 : Int))] w fun v w1 =>
 ∃ x7 : Option Addr, ∃ x7v1 : Int, v = (.tuple #[(.pointer x7), (.int .i64 x7v1)]) ∧
 (LETI x7v1 fun e =>
 IFB (e != (0 : Int))
 (Q (.bool false) w1)
 (IFB (x7.isNone)
 (Q (.bool false) w1)
 (RUN PG (Instr.buildSlice 28 3 #[(0, (.int .u8 (97 : Int))), (1, (.int .u8 (98 : Int))), (2, (.int .u8 (99 : Int)))]) w1 fun v1 w2 =>
 ∃ (x17 : Option Addr) (x17N x17C : Nat), v1 = (.slice x17 x17N x17C) ∧
 (RUN PG (convert 28 28 (.slice x17 x17N x17C)) w2 fun v2 w3 =>
 ∃ (x18 : Option Addr) (x18N x18C : Nat), v2 = (.slice x18 x18N x18C) ∧
 (CALL PG 16 [(.pointer x7), (.slice x18 x18N x18C)] w3 fun v3 w4 =>
 ∃ x19 : Int, v3 = (.int .i64 x19) ∧
 (LETI x19 fun a =>
 CALL PG 21 [(.pointer x7), (.int .i64 (2 : Int))] w4 fun v4 w5 =>
 ∃ x21 : Int, v4 = (.int .i64 x21) ∧
 (LETI x21 fun b =>
 RUN PG (Instr.buildSlice 28 4 #[(0, (.int .u8 (100 : Int))), (1, (.int .u8 (101 : Int))), (2, (.int .u8 (102 : Int))), (3, (.int .u8 (103 : Int)))]) w5 fun v5 w6 =>
 ∃ (x23 : Option Addr) (x23N x23C : Nat), v5 = (.slice x23 x23N x23C) ∧
 (RUN PG (convert 28 28 (.slice x23 x23N x23C)) w6 fun v6 w7 =>
 ∃ (x24 : Option Addr) (x24N x24C : Nat), v6 = (.slice x24 x24N x24C) ∧
 (CALL PG 16 [(.pointer x7), (.slice x24 x24N x24C)] w7 fun v7 w8 =>
 ∃ x25 : Int, v7 = (.int .i64 x25) ∧
 (LETI x25 fun c =>
 IFB (a == (3 : Int))
 (IFB (b == (2 : Int))
 (IFB (c == (3 : Int))
 (CALL PG 18 [(.pointer x7), (.int .i64 (9 : Int))] w8 fun v8 w9 =>
 ∃ (x38 : Option Addr) (x38N x38C : Nat), v8 = (.slice x38 x38N x38C) ∧
 (RD PG (convert 28 9 (.slice x38 x38N x38C)) w9 fun v9 =>
 ∃ x39 : ByteArray, v9 = (.string x39) ∧
 (IFB (x39.toList == (ByteArray.mk #[99, 100, 101, 102]).toList)
 (CALL PG 19 [(.pointer x7)] w9 fun v10 w10 =>
 ∃ x44 : Int, v10 = (.int .i64 x44) ∧
 (IFB (x44 == (0 : Int))
 (CALL PG 17 [(.pointer x7)] w10 fun v11 w11 =>
 ∃ x49 : Int, v11 = (.int .i64 x49) ∧
 (LETB (x49 == (4 : Int)) fun x0 =>
 Q (.bool x0) w11))
 (LETB false fun x0v1 =>
 Q (.bool x0v1) w10)))
 (LETB false fun x0v2 =>
 Q (.bool x0v2) w9))))
 (LETB false fun x0v3 =>
 Q (.bool x0v3) w8))
 (LETB false fun x0v4 =>
 Q (.bool x0v4) w8))
 (LETB false fun x0v5 =>
 Q (.bool x0v5) w8)))))))))))
theorem eq20 : ∀  (w : World) (Q : Value → World → Prop), vcF PG TB Try.f20 .nil [] w Q = N20  w Q := by intros; kernel_rfl
theorem call20  {w : World} {Q : Value → World → Prop} (hN : N20  w Q) : CALL PG 20 [] w Q := calls_vc tabOk Try.func20 (by rw [eq20]; exact hN)

end Go.Br
