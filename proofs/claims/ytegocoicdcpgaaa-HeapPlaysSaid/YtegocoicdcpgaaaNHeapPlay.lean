/- What the code of some functions says, as the core reads it; each reading is checked by the kernel. -/
import Derived.Test.YtegocoicdcpgaaaBrSeat
set_option linter.unusedVariables false
set_option maxRecDepth 100000
namespace Go.Br
open Go Go.Proofs

/-- brougham/broughamref42.Due -/
def N65 (l : Option Addr) (lN lC : Nat) (now : Int) (w : World) (Q : Value → World → Prop) : Prop :=
 ∃ I : Nat → Option Addr → Nat → Nat → Option Addr → Nat → Nat → Int → World → Prop,
 (∃ m, I m none 0 0 none 0 0 (0 : Int) w) ∧
 (∀ m1 (left : Option Addr) (leftN leftC : Nat) (out : Option Addr) (outN outC : Nat) (i : Int) (w1 : World), I m1 left leftN leftC out outN outC i w1 → (IFB (decide (i < (lN : Int)))
 (IDX l lN i fun a17 =>
 RD PG (loadVar 3 (Addr.add (Addr.add a17 (Int.toNat i * 2)) 0)) w1 fun v =>
 ∃ x19 : Int, v = (.int .i64 x19) ∧
 (IFB (decide (x19 ≤ now))
 (IDX l lN i fun a25 =>
 RD PG (loadVar 3 (Addr.add (Addr.add a25 (Int.toNat i * 2)) 1)) w1 fun v1 =>
 ∃ x27 : Int, v1 = (.int .i64 x27) ∧
 (RUN PG (Instr.buildSlice 23 1 #[(0, (.int .i64 x27))]) w1 fun v2 w2 =>
 ∃ (x28 : Option Addr) (x28N x28C : Nat), v2 = (.slice x28 x28N x28C) ∧
 (RUN PG (Builtin.append_ #[23, 23] 23 #[(.slice out outN outC), (.slice x28 x28N x28C)]) w2 fun v3 w3 =>
 ∃ (x29 : Option Addr) (x29N x29C : Nat), v3 = (.slice x29 x29N x29C) ∧
 (LETI (IntKind.i64.wrap (i + (1 : Int))) fun i1 =>
 ∃ m2, m2 < m1 ∧ I m2 left leftN leftC x29 x29N x29C i1 w3))))
 (IDX l lN i fun a33 =>
 RD PG (loadVar 113 (Addr.add a33 (Int.toNat i * 2))) w1 fun v4 =>
 ∃ x34 : Int, ∃ x34v1 : Int, v4 = (.agg #[(.int .i64 x34), (.int .i64 x34v1)]) ∧
 (RUN PG (Instr.buildSlice 105 1 #[(0, (.agg #[(.int .i64 x34), (.int .i64 x34v1)]))]) w1 fun v5 w4 =>
 ∃ (x35 : Option Addr) (x35N x35C : Nat), v5 = (.slice x35 x35N x35C) ∧
 (RUN PG (Builtin.append_ #[105, 105] 105 #[(.slice left leftN leftC), (.slice x35 x35N x35C)]) w4 fun v6 w5 =>
 ∃ (x36 : Option Addr) (x36N x36C : Nat), v6 = (.slice x36 x36N x36C) ∧
 (LETI (IntKind.i64.wrap (i + (1 : Int))) fun i2 =>
 ∃ m3, m3 < m1 ∧ I m3 x36 x36N x36C out outN outC i2 w5))))))
 (Q (.tuple #[(.slice left leftN leftC), (.slice out outN outC)]) w1)))
theorem eq65 : ∀ (l : Option Addr) (lN lC : Nat) (now : Int) (w : World) (Q : Value → World → Prop), vcF PG TB Try.f65 (.s .nil (.s .nil (.s .nil (.s (.s .nil (.u (.loop [(6, 105), (7, 23), (8, 3)] .nil))) .nil)))) [(.slice l lN lC), (.int .i64 now)] w Q = N65 l lN lC now w Q := by intros; kernel_rfl
theorem call65 {l : Option Addr} {lN lC : Nat} {now : Int} {w : World} {Q : Value → World → Prop} (hN : N65 l lN lC now w Q) : CALL PG 65 [(.slice l lN lC), (.int .i64 now)] w Q := calls_vc tabOk Try.func65 (by rw [eq65]; exact hN)

/-- brougham/broughamlaw42.row -/
def N66 (a : Option Addr) (aN aC : Nat) (b : Option Addr) (bN bC : Nat) (w : World) (Q : Value → World → Prop) : Prop :=
 IFB ((aN : Int) != (bN : Int))
 (Q (.bool false) w)
 (∃ I : Nat → Int → World → Prop,
 (∃ m, I m (0 : Int) w) ∧
 (∀ m1 (i : Int) (w1 : World), I m1 i w1 → (IFB (decide (i < (aN : Int)))
 (IDX a aN i fun a19 =>
 RD PG (loadVar 3 (Addr.add a19 (Int.toNat i * 1))) (w1.drew) fun v =>
 ∃ x20 : Int, v = (.int .i64 x20) ∧
 (IDX b bN i fun a23 =>
 RD PG (loadVar 3 (Addr.add a23 (Int.toNat i * 1))) (w1.drew) fun v1 =>
 ∃ x24 : Int, v1 = (.int .i64 x24) ∧
 (IFB (x20 != x24)
 (Q (.bool false) (w1.drew))
 (LETI (IntKind.i64.wrap (i + (1 : Int))) fun i1 =>
 ∃ m2, m2 < m1 ∧ I m2 i1 (w1.drew)))))
 (Q (.bool true) w1))))
theorem eq66 : ∀ (a : Option Addr) (aN aC : Nat) (b : Option Addr) (bN bC : Nat) (w : World) (Q : Value → World → Prop), vcF PG TB Try.f66 (.s .nil (.s .nil (.s (.s .nil (.u (.loop [(5, 3)] .nil))) .nil))) [(.slice a aN aC), (.slice b bN bC)] w Q = N66 a aN aC b bN bC w Q := by intros; kernel_rfl
theorem call66 {a : Option Addr} {aN aC : Nat} {b : Option Addr} {bN bC : Nat} {w : World} {Q : Value → World → Prop} (hN : N66 a aN aC b bN bC w Q) : CALL PG 66 [(.slice a aN aC), (.slice b bN bC)] w Q := calls_vc tabOk Try.func66 (by rw [eq66]; exact hN)

/-- brougham/broughamref42.Put -/
def N68 (l : Option Addr) (lN lC : Nat) (x : Int) (x1 : Int) (w : World) (Q : Value → World → Prop) : Prop :=
 RUN PG (Instr.box 113 (.agg #[(.int .i64 x), (.int .i64 x1)])) w fun v w1 =>
 ∃ a3 : Addr, v = (.pointer (some a3)) ∧
 (∃ S : World → Prop, S (w1.drew) ∧
 (RDS PG (loadVar 113 a3) S fun v1 =>
 ∃ x10 : Int, ∃ x10v1 : Int, v1 = (.agg #[(.int .i64 x10), (.int .i64 x10v1)]) ∧
 ((RUN PG (Instr.buildSlice 105 0 #[]) (w1.drew) fun v2 w2 =>
 ∃ (x7 : Option Addr) (x7N x7C : Nat), v2 = (.slice x7 x7N x7C) ∧
 (∃ S1 : World → Prop, (∀ x, S1 x → S x) ∧ S1 w2 ∧
 ((RUN PG (Builtin.append_ #[105, 105] 105 #[(.slice x7 x7N x7C), (.slice l lN lC)]) w2 fun v3 w3 =>
 ∃ (x9 : Option Addr) (x9N x9C : Nat), v3 = (.slice x9 x9N x9C) ∧
 (∃ S2 : World → Prop, (∀ x, S2 x → S1 x) ∧ S2 w3 ∧
 (RUN PG (Instr.buildSlice 105 1 #[(0, (.agg #[(.int .i64 x10), (.int .i64 x10v1)]))]) w3 fun v4 w4 =>
 ∃ (x11 : Option Addr) (x11N x11C : Nat), v4 = (.slice x11 x11N x11C) ∧
 (RUN PG (Builtin.append_ #[105, 105] 105 #[(.slice x9 x9N x9C), (.slice x11 x11N x11C)]) w4 fun v5 w5 =>
 ∃ (x12 : Option Addr) (x12N x12C : Nat), v5 = (.slice x12 x12N x12C) ∧
 (LETI (IntKind.i64.wrap ((x12N : Int) - (1 : Int))) fun i =>
 ∃ I : Nat → Int → World → Prop,
 (∃ m, I m i w5) ∧
 (∀ m1 (i1 : Int) (w6 : World), I m1 i1 w6 → (IFB (decide (i1 > (0 : Int)))
 (IDX x12 x12N i1 fun a21 =>
 RD PG (loadVar 3 (Addr.add (Addr.add a21 (Int.toNat i1 * 2)) 0)) (w6.drew) fun v6 =>
 ∃ x23 : Int, v6 = (.int .i64 x23) ∧
 (IDX x12 x12N (IntKind.i64.wrap (i1 - (1 : Int))) fun a27 =>
 RD PG (loadVar 3 (Addr.add (Addr.add a27 (Int.toNat (IntKind.i64.wrap (i1 - (1 : Int))) * 2)) 0)) (w6.drew) fun v7 =>
 ∃ x29 : Int, v7 = (.int .i64 x29) ∧
 (IFB (decide (x23 < x29))
 (IDX x12 x12N (IntKind.i64.wrap (i1 - (1 : Int))) fun a42 =>
 RD PG (loadVar 113 (Addr.add a42 (Int.toNat (IntKind.i64.wrap (i1 - (1 : Int))) * 2))) ((w6.drew).drew) fun v8 =>
 ∃ x43 : Int, ∃ x43v1 : Int, v8 = (.agg #[(.int .i64 x43), (.int .i64 x43v1)]) ∧
 (IDX x12 x12N i1 fun a46 =>
 RD PG (loadVar 113 (Addr.add a46 (Int.toNat i1 * 2))) ((w6.drew).drew) fun v9 =>
 ∃ x47 : Int, ∃ x47v1 : Int, v9 = (.agg #[(.int .i64 x47), (.int .i64 x47v1)]) ∧
 (IDX x12 x12N i1 fun a48 =>
 RUNU PG (storeVar 113 (Addr.add a48 (Int.toNat i1 * 2)) (.agg #[(.int .i64 x43), (.int .i64 x43v1)])) ((w6.drew).drew) fun w7 =>
 IDX x12 x12N (IntKind.i64.wrap (i1 - (1 : Int))) fun a49 =>
 RUNU PG (storeVar 113 (Addr.add a49 (Int.toNat (IntKind.i64.wrap (i1 - (1 : Int))) * 2)) (.agg #[(.int .i64 x47), (.int .i64 x47v1)])) w7 fun w8 =>
 LETI (IntKind.i64.wrap (i1 - (1 : Int))) fun i2 =>
 ∃ m2, m2 < m1 ∧ I m2 i2 w8)))
 (Q (.slice x12 x12N x12C) (w6.drew)))))
 (Q (.slice x12 x12N x12C) (w6.drew))))))))) ∧
 (RUN PG (Instr.buildSlice 105 1 #[(0, (.agg #[(.int .i64 x10), (.int .i64 x10v1)]))]) w2 fun v10 w9 =>
 ∃ (x11v1 : Option Addr) (x11N1 x11C1 : Nat), v10 = (.slice x11v1 x11N1 x11C1) ∧
 (∃ S3 : World → Prop, (∀ x, S3 x → S1 x) ∧ S3 w9 ∧
 (RUN PG (Builtin.append_ #[105, 105] 105 #[(.slice x7 x7N x7C), (.slice l lN lC)]) w9 fun v11 w10 =>
 ∃ (x9v1 : Option Addr) (x9N1 x9C1 : Nat), v11 = (.slice x9v1 x9N1 x9C1) ∧
 (∃ S4 : World → Prop, (∀ x, S4 x → S3 x) ∧ S4 w10 ∧
 (RUN PG (Builtin.append_ #[105, 105] 105 #[(.slice x9v1 x9N1 x9C1), (.slice x11v1 x11N1 x11C1)]) w10 fun v12 w11 =>
 ∃ (x12v1 : Option Addr) (x12N1 x12C1 : Nat), v12 = (.slice x12v1 x12N1 x12C1) ∧
 (LETI (IntKind.i64.wrap ((x12N1 : Int) - (1 : Int))) fun i3 =>
 ∃ I1 : Nat → Int → World → Prop,
 (∃ m3, I1 m3 i3 w11) ∧
 (∀ m4 (i4 : Int) (w12 : World), I1 m4 i4 w12 → (IFB (decide (i4 > (0 : Int)))
 (IDX x12v1 x12N1 i4 fun a21v1 =>
 RD PG (loadVar 3 (Addr.add (Addr.add a21v1 (Int.toNat i4 * 2)) 0)) (w12.drew) fun v13 =>
 ∃ x23v1 : Int, v13 = (.int .i64 x23v1) ∧
 (IDX x12v1 x12N1 (IntKind.i64.wrap (i4 - (1 : Int))) fun a27v1 =>
 RD PG (loadVar 3 (Addr.add (Addr.add a27v1 (Int.toNat (IntKind.i64.wrap (i4 - (1 : Int))) * 2)) 0)) (w12.drew) fun v14 =>
 ∃ x29v1 : Int, v14 = (.int .i64 x29v1) ∧
 (IFB (decide (x23v1 < x29v1))
 (IDX x12v1 x12N1 (IntKind.i64.wrap (i4 - (1 : Int))) fun a42v1 =>
 RD PG (loadVar 113 (Addr.add a42v1 (Int.toNat (IntKind.i64.wrap (i4 - (1 : Int))) * 2))) ((w12.drew).drew) fun v15 =>
 ∃ x43v2 : Int, ∃ x43v3 : Int, v15 = (.agg #[(.int .i64 x43v2), (.int .i64 x43v3)]) ∧
 (IDX x12v1 x12N1 i4 fun a46v1 =>
 RD PG (loadVar 113 (Addr.add a46v1 (Int.toNat i4 * 2))) ((w12.drew).drew) fun v16 =>
 ∃ x47v2 : Int, ∃ x47v3 : Int, v16 = (.agg #[(.int .i64 x47v2), (.int .i64 x47v3)]) ∧
 (IDX x12v1 x12N1 i4 fun a48v1 =>
 RUNU PG (storeVar 113 (Addr.add a48v1 (Int.toNat i4 * 2)) (.agg #[(.int .i64 x43v2), (.int .i64 x43v3)])) ((w12.drew).drew) fun w13 =>
 IDX x12v1 x12N1 (IntKind.i64.wrap (i4 - (1 : Int))) fun a49v1 =>
 RUNU PG (storeVar 113 (Addr.add a49v1 (Int.toNat (IntKind.i64.wrap (i4 - (1 : Int))) * 2)) (.agg #[(.int .i64 x47v2), (.int .i64 x47v3)])) w13 fun w14 =>
 LETI (IntKind.i64.wrap (i4 - (1 : Int))) fun i5 =>
 ∃ m5, m5 < m4 ∧ I1 m5 i5 w14)))
 (Q (.slice x12v1 x12N1 x12C1) (w12.drew)))))
 (Q (.slice x12v1 x12N1 x12C1) (w12.drew))))))))))))) ∧
 (RUN PG (Instr.buildSlice 105 1 #[(0, (.agg #[(.int .i64 x10), (.int .i64 x10v1)]))]) (w1.drew) fun v17 w15 =>
 ∃ (x11v2 : Option Addr) (x11N2 x11C2 : Nat), v17 = (.slice x11v2 x11N2 x11C2) ∧
 (∃ S5 : World → Prop, (∀ x, S5 x → S x) ∧ S5 w15 ∧
 (RUN PG (Instr.buildSlice 105 0 #[]) w15 fun v18 w16 =>
 ∃ (x7v1 : Option Addr) (x7N1 x7C1 : Nat), v18 = (.slice x7v1 x7N1 x7C1) ∧
 (∃ S6 : World → Prop, (∀ x, S6 x → S5 x) ∧ S6 w16 ∧
 (RUN PG (Builtin.append_ #[105, 105] 105 #[(.slice x7v1 x7N1 x7C1), (.slice l lN lC)]) w16 fun v19 w17 =>
 ∃ (x9v2 : Option Addr) (x9N2 x9C2 : Nat), v19 = (.slice x9v2 x9N2 x9C2) ∧
 (∃ S7 : World → Prop, (∀ x, S7 x → S6 x) ∧ S7 w17 ∧
 (RUN PG (Builtin.append_ #[105, 105] 105 #[(.slice x9v2 x9N2 x9C2), (.slice x11v2 x11N2 x11C2)]) w17 fun v20 w18 =>
 ∃ (x12v2 : Option Addr) (x12N2 x12C2 : Nat), v20 = (.slice x12v2 x12N2 x12C2) ∧
 (LETI (IntKind.i64.wrap ((x12N2 : Int) - (1 : Int))) fun i6 =>
 ∃ I2 : Nat → Int → World → Prop,
 (∃ m6, I2 m6 i6 w18) ∧
 (∀ m7 (i7 : Int) (w19 : World), I2 m7 i7 w19 → (IFB (decide (i7 > (0 : Int)))
 (IDX x12v2 x12N2 i7 fun a21v2 =>
 RD PG (loadVar 3 (Addr.add (Addr.add a21v2 (Int.toNat i7 * 2)) 0)) (w19.drew) fun v21 =>
 ∃ x23v2 : Int, v21 = (.int .i64 x23v2) ∧
 (IDX x12v2 x12N2 (IntKind.i64.wrap (i7 - (1 : Int))) fun a27v2 =>
 RD PG (loadVar 3 (Addr.add (Addr.add a27v2 (Int.toNat (IntKind.i64.wrap (i7 - (1 : Int))) * 2)) 0)) (w19.drew) fun v22 =>
 ∃ x29v2 : Int, v22 = (.int .i64 x29v2) ∧
 (IFB (decide (x23v2 < x29v2))
 (IDX x12v2 x12N2 (IntKind.i64.wrap (i7 - (1 : Int))) fun a42v2 =>
 RD PG (loadVar 113 (Addr.add a42v2 (Int.toNat (IntKind.i64.wrap (i7 - (1 : Int))) * 2))) ((w19.drew).drew) fun v23 =>
 ∃ x43v4 : Int, ∃ x43v5 : Int, v23 = (.agg #[(.int .i64 x43v4), (.int .i64 x43v5)]) ∧
 (IDX x12v2 x12N2 i7 fun a46v2 =>
 RD PG (loadVar 113 (Addr.add a46v2 (Int.toNat i7 * 2))) ((w19.drew).drew) fun v24 =>
 ∃ x47v4 : Int, ∃ x47v5 : Int, v24 = (.agg #[(.int .i64 x47v4), (.int .i64 x47v5)]) ∧
 (IDX x12v2 x12N2 i7 fun a48v2 =>
 RUNU PG (storeVar 113 (Addr.add a48v2 (Int.toNat i7 * 2)) (.agg #[(.int .i64 x43v4), (.int .i64 x43v5)])) ((w19.drew).drew) fun w20 =>
 IDX x12v2 x12N2 (IntKind.i64.wrap (i7 - (1 : Int))) fun a49v2 =>
 RUNU PG (storeVar 113 (Addr.add a49v2 (Int.toNat (IntKind.i64.wrap (i7 - (1 : Int))) * 2)) (.agg #[(.int .i64 x47v4), (.int .i64 x47v5)])) w20 fun w21 =>
 LETI (IntKind.i64.wrap (i7 - (1 : Int))) fun i8 =>
 ∃ m8, m8 < m7 ∧ I2 m8 i8 w21)))
 (Q (.slice x12v2 x12N2 x12C2) (w19.drew)))))
 (Q (.slice x12v2 x12N2 x12C2) (w19.drew)))))))))))))))
theorem eq68 : ∀ (l : Option Addr) (lN lC : Nat) (x : Int) (x1 : Int) (w : World) (Q : Value → World → Prop), vcF PG TB Try.f68 (.s .nil (.s .nil (.s (.s .nil (.u (.loop [(6, 3)] .nil))) .nil))) [(.slice l lN lC), (.agg #[(.int .i64 x), (.int .i64 x1)])] w Q = N68 l lN lC x x1 w Q := by intros; kernel_rfl
theorem call68 {l : Option Addr} {lN lC : Nat} {x : Int} {x1 : Int} {w : World} {Q : Value → World → Prop} (hN : N68 l lN lC x x1 w Q) : CALL PG 68 [(.slice l lN lC), (.agg #[(.int .i64 x), (.int .i64 x1)])] w Q := calls_vc tabOk Try.func68 (by rw [eq68]; exact hN)

end Go.Br
