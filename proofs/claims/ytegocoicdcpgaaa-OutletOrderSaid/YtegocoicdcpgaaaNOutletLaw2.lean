/- What the code of some functions says, as the core reads it; each reading is checked by the kernel. -/
import Derived.Test.YtegocoicdcpgaaaBrSeat
set_option linter.unusedVariables false
set_option maxRecDepth 100000
namespace Go.Br
open Go Go.Proofs

/-- brougham/broughamlaw17.OutletOrder -/
def N8 (sizev : Int) (l : Option Addr) (lN lC : Nat) (pieces : Option Addr) (piecesN piecesC : Nat) (w : World) (Q : Value → World → Prop) : Prop :=
 IFB (decide (sizev < (1 : Int)))
 (Q (.bool true) w)
 (IFB (decide (sizev > (500 : Int)))
 (Q (.bool true) w)
 (IFB (decide ((lN : Int) > (40 : Int)))
 (Q (.bool true) w)
 (IFB (decide ((piecesN : Int) > (300 : Int)))
 (Q (.bool true) w)
 (CALL PG 40 [(.int .i64 sizev)] w fun v w1 =>
 ∃ x34 : Option Addr, ∃ x34v1 : Int, v = (.tuple #[(.pointer x34), (.int .i64 x34v1)]) ∧
 (LETI x34v1 fun e =>
 IFB (e != (0 : Int))
 (Q (.bool false) w1)
 (IFB (x34.isNone)
 (Q (.bool false) w1)
 (NILC x34 fun a45 =>
 RD PG (loadVar 24 (Addr.add a45 0)) w1 fun v1 =>
 ∃ x47 : Option Addr, v1 = (.pointer x47) ∧
 (IFB (x47.isNone)
 (Q (.bool false) w1)
 (∃ I : Nat → ByteArray → ByteArray → Int → World → Prop,
 (∃ m, I m (ByteArray.mk #[]) (ByteArray.mk #[]) (0 : Int) w1) ∧
 (∀ m1 (inv : ByteArray) (out : ByteArray) (i : Int) (w2 : World), I m1 inv out i w2 → (IFB (decide (i < (lN : Int)))
 (IDX l lN i fun a58 =>
 RD PG (loadVar 28 (Addr.add a58 (Int.toNat i * 1))) w2 fun v2 =>
 ∃ (x59 : Option Addr) (x59N x59C : Nat), v2 = (.slice x59 x59N x59C) ∧
 (IFB (decide ((x59N : Int) > (300 : Int)))
 (Q (.bool true) w2)
 (IDX l lN i fun a66 =>
 RD PG (loadVar 28 (Addr.add a66 (Int.toNat i * 1))) w2 fun v3 =>
 ∃ (x67 : Option Addr) (x67N x67C : Nat), v3 = (.slice x67 x67N x67C) ∧
 (CALL PG 41 [(.pointer x34), (.slice x67 x67N x67C)] w2 fun v4 w3 =>
 ∃ x68 : Int, ∃ x68v1 : Int, v4 = (.tuple #[(.int .i64 x68), (.int .i64 x68v1)]) ∧
 (LETI x68 fun n =>
 LETI x68v1 fun f =>
 ∃ R : World → Prop,
 (IFB (decide (n < (0 : Int)))
 (Q (.bool false) w3)
 (IDX l lN i fun a77 =>
 RD PG (loadVar 28 (Addr.add a77 (Int.toNat i * 1))) w3 fun v5 =>
 ∃ (x78 : Option Addr) (x78N x78C : Nat), v5 = (.slice x78 x78N x78C) ∧
 (IFB (decide (n > (x78N : Int)))
 (Q (.bool false) w3)
 (IFB (f != (0 : Int))
 (IFB (n != (0 : Int))
 (Q (.bool false) w3)
 (R w3))
 (R w3))))) ∧
 (∀  (w4 : World), R w4 → (IDX l lN i fun a93 =>
 RD PG (loadVar 28 (Addr.add a93 (Int.toNat i * 1))) w4 fun v6 =>
 ∃ (x94 : Option Addr) (x94N x94C : Nat), v6 = (.slice x94 x94N x94C) ∧
 (NEED (0 ≤ (0 : Int) ∧ (0 : Int) ≤ n ∧ n ≤ ((x94C : Nat) : Int))
 (RD PG (convert 28 9 (.slice (cutA x94 x94C 1 (0 : Int)) (Int.toNat n - Int.toNat (0 : Int)) (x94C - Int.toNat (0 : Int)))) w4 fun v7 =>
 ∃ x97 : ByteArray, v7 = (.string x97) ∧
 (NEED (((inv.size + x97.size : Nat) : Int) ≤ IntKind.i64.max)
 (LETS (inv ++ x97) fun inv1 =>
 ∃ R1 : Int → World → Prop,
 (IFB (decide (i < (piecesN : Int)))
 (IDX pieces piecesN i fun a105 =>
 RD PG (loadVar 3 (Addr.add a105 (Int.toNat i * 1))) w4 fun v8 =>
 ∃ x106 : Int, v8 = (.int .i64 x106) ∧
 (NEED ((50 : Int) ≠ 0)
 (NEED ((50 : Int) ≠ 0)
 (LETI (Int.tmod (IntKind.i64.wrap ((Int.tmod x106 (50 : Int)) + (50 : Int))) (50 : Int)) fun many =>
 R1 many w4))))
 (R1 (7 : Int) w4)) ∧
 (∀ (many1 : Int) (w5 : World), R1 many1 w5 → (CALL PG 43 [(.pointer x34)] w5 fun v9 w6 =>
 ∃ x112 : Int, v9 = (.int .u64 x112) ∧
 (CALL PG 42 [(.pointer x34), (.int .u64 x112), (.int .i64 many1)] w6 fun v10 w7 =>
 ∃ (x114 : Option Addr) (x114N x114C : Nat), v10 = (.slice x114 x114N x114C) ∧
 (IFB (decide ((x114N : Int) > many1))
 (Q (.bool false) w7)
 (IFB (decide ((x114N : Int) > (0 : Int)))
 (CALL PG 43 [(.pointer x34)] w7 fun v11 w8 =>
 ∃ x126 : Int, v11 = (.int .u64 x126) ∧
 (CALL PG 44 [(.pointer x34), (.int .u64 (IntKind.u64.wrap (x126 + (IntKind.u64.wrap (x114N : Int)))))] w8 fun v12 w9 =>
 ∃ x131 : Bool, v12 = (.bool x131) ∧
 (IFB (!x131)
 (Q (.bool false) w9)
 (RD PG (convert 28 9 (.slice x114 x114N x114C)) w9 fun v13 =>
 ∃ x137 : ByteArray, v13 = (.string x137) ∧
 (NEED (((out.size + x137.size : Nat) : Int) ≤ IntKind.i64.max)
 (LETS (out ++ x137) fun out1 =>
 LETI (IntKind.i64.wrap (i + (1 : Int))) fun i1 =>
 ∃ m2, m2 < m1 ∧ I m2 inv1 out1 i1 w9))))))
 (RD PG (convert 28 9 (.slice x114 x114N x114C)) w7 fun v14 =>
 ∃ x137v1 : ByteArray, v14 = (.string x137v1) ∧
 (NEED (((out.size + x137v1.size : Nat) : Int) ≤ IntKind.i64.max)
 (LETS (out ++ x137v1) fun out2 =>
 LETI (IntKind.i64.wrap (i + (1 : Int))) fun i2 =>
 ∃ m3, m3 < m1 ∧ I m3 inv1 out2 i2 w7)))))))))))))))))))
 (CALL PG 43 [(.pointer x34)] w2 fun v15 w10 =>
 ∃ x142 : Int, v15 = (.int .u64 x142) ∧
 (CALL PG 42 [(.pointer x34), (.int .u64 x142), (.int .i64 sizev)] w10 fun v16 w11 =>
 ∃ (x144 : Option Addr) (x144N x144C : Nat), v16 = (.slice x144 x144N x144C) ∧
 (RD PG (convert 28 9 (.slice x144 x144N x144C)) w11 fun v17 =>
 ∃ x145 : ByteArray, v17 = (.string x145) ∧
 (NEED (((out.size + x145.size : Nat) : Int) ≤ IntKind.i64.max)
 (LETS (out ++ x145) fun out3 =>
 IFB (inv.toList == out3.toList)
 (CALL PG 45 [(.pointer x34)] w11 fun v18 w12 =>
 ∃ x152 : Int, v18 = (.int .u64 x152) ∧
 (IFB (x152 == (IntKind.u64.wrap ((inv.size : Nat) : Int)))
 (CALL PG 46 [] w12 fun v19 w13 =>
 ∃ x159 : Bool, v19 = (.bool x159) ∧
 (LETB x159 fun x6 =>
 Q (.bool x6) w13))
 (LETB false fun x6v1 =>
 Q (.bool x6v1) w12)))
 (LETB false fun x6v2 =>
 Q (.bool x6v2) w11)))))))))))))))))
theorem eq8 : ∀ (sizev : Int) (l : Option Addr) (lN lC : Nat) (pieces : Option Addr) (piecesN piecesC : Nat) (w : World) (Q : Value → World → Prop), vcF PG TB Try.f8 (.s .nil (.s .nil (.s .nil (.s .nil (.s .nil (.s (.s .nil (.u (.loop [(9, 9), (10, 9), (11, 3)] (.s .nil (.s (.u (.s .nil (.s .nil (.cut [] .nil (.s .nil (.s .nil (.cut [(14, 3)] .nil .nil))))))) .nil))))) .nil)))))) [(.int .i64 sizev), (.slice l lN lC), (.slice pieces piecesN piecesC)] w Q = N8 sizev l lN lC pieces piecesN piecesC w Q := by intros; kernel_rfl
theorem call8 {sizev : Int} {l : Option Addr} {lN lC : Nat} {pieces : Option Addr} {piecesN piecesC : Nat} {w : World} {Q : Value → World → Prop} (hN : N8 sizev l lN lC pieces piecesN piecesC w Q) : CALL PG 8 [(.int .i64 sizev), (.slice l lN lC), (.slice pieces piecesN piecesC)] w Q := calls_vc tabOk Try.func8 (by rw [eq8]; exact hN)

end Go.Br
