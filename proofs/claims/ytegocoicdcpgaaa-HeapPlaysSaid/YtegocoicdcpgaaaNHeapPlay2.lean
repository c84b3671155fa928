/- What the code of some functions says, as the core reads it; each reading is checked by the kernel. -/
import Derived.Test.YtegocoicdcpgaaaBrSeat
set_option linter.unusedVariables false
set_option maxRecDepth 100000
namespace Go.Br
open Go Go.Proofs

/-- brougham/broughamlaw42.HeapPlays -/
def N12 (most : Int) (l : Option Addr) (lN lC : Nat) (w : World) (Q : Value → World → Prop) : Prop :=
 IFB (decide ((lN : Int) > (150 : Int)))
 (Q (.bool true) w)
 (CALL PG 63 [(.int .i64 most)] w fun v w1 =>
 ∃ x20 : Option Addr, v = (.pointer x20) ∧
 (IFB (x20.isNone)
 (Q (.bool false) w1)
 (LETI most fun m =>
 ∃ R : Int → World → Prop,
 (IFB (decide (m < (0 : Int)))
 (R (0 : Int) w1)
 (R m w1)) ∧
 (∀ (m1 : Int) (w2 : World), R m1 w2 → (∃ R1 : Int → World → Prop,
 (IFB (decide (m1 > (65536 : Int)))
 (R1 (65536 : Int) w2)
 (R1 m1 w2)) ∧
 (∀ (m2 : Int) (w3 : World), R1 m2 w3 → (∃ I : Nat → Option Addr → Nat → Nat → Int → World → Prop,
 (∃ m3, I m3 none 0 0 (0 : Int) w3) ∧
 (∀ m4 (r : Option Addr) (rN rC : Nat) (i : Int) (w4 : World), I m4 r rN rC i w4 → (IFB (decide (i < (lN : Int)))
 (IDX l lN i fun a36 =>
 RD PG (loadVar 107 (Addr.add a36 (Int.toNat i * 3))) w4 fun v1 =>
 ∃ x37 : Int, ∃ x37v1 : Int, ∃ x37v2 : Int, v1 = (.agg #[(.int .i64 x37), (.int .i64 x37v1), (.int .i64 x37v2)]) ∧
 (RUN PG (Instr.alloc 107 true (.tuple #[])) w4 fun v2 w5 =>
 ∃ a9 : Addr, v2 = (.pointer (some a9)) ∧
 (RUNU PG (storeVar 107 a9 (.agg #[(.int .i64 x37), (.int .i64 x37v1), (.int .i64 x37v2)])) w5 fun w6 =>
 ∃ R2 : Option Addr → Nat → Nat → World → Prop,
 (RD PG (loadVar 3 (Addr.add a9 0)) w6 fun v3 =>
 ∃ x39 : Int, v3 = (.int .i64 x39) ∧
 (NEED ((7 : Int) ≠ 0)
 (NEED ((7 : Int) ≠ 0)
 (∃ R3 : Bool → World → Prop,
 (LETB ((Int.tmod (IntKind.i64.wrap ((Int.tmod x39 (7 : Int)) + (7 : Int))) (7 : Int)) == (4 : Int)) fun x63 =>
 IFB x63
 (R3 true w6)
 (LETB ((Int.tmod (IntKind.i64.wrap ((Int.tmod x39 (7 : Int)) + (7 : Int))) (7 : Int)) == (5 : Int)) fun x63v1 =>
 R3 x63v1 w6)) ∧
 (∀ (x63v2 : Bool) (w7 : World), R3 x63v2 w7 → (IFB x63v2
 (CALL PG 64 [(.pointer x20)] w7 fun v4 w8 =>
 ∃ x68 : Int, ∃ x68v1 : Int, ∃ x68v2 : Int, ∃ x68v3 : Bool, v4 = (.tuple #[(.agg #[(.int .i64 x68), (.int .i64 x68v1), (.int .i64 x68v2)]), (.bool x68v3)]) ∧
 (RUN PG (Instr.alloc 109 true (.tuple #[])) w8 fun v5 w9 =>
 ∃ a11 : Addr, v5 = (.pointer (some a11)) ∧
 (RUNU PG (storeVar 109 a11 (.agg #[(.int .i64 x68), (.int .i64 x68v1), (.int .i64 x68v2)])) w9 fun w10 =>
 LETB x68v3 fun okv =>
 IFB (!(okv == (decide ((rN : Int) > (0 : Int)))))
 (Q (.bool false) (w10.drew))
 (IFB okv
 (RD PG (loadVar 3 (Addr.add a11 0)) (w10.drew) fun v6 =>
 ∃ x80 : Int, v6 = (.int .i64 x80) ∧
 (IDX r rN (0 : Int) fun a82 =>
 RD PG (loadVar 3 (Addr.add (Addr.add a82 (Int.toNat (0 : Int) * 2)) 0)) (w10.drew) fun v7 =>
 ∃ x84 : Int, v7 = (.int .i64 x84) ∧
 (IFB (x80 != x84)
 (Q (.bool false) (w10.drew))
 (RD PG (loadVar 3 (Addr.add a11 1)) (w10.drew) fun v8 =>
 ∃ x88 : Int, v8 = (.int .i64 x88) ∧
 (IDX r rN (0 : Int) fun a90 =>
 RD PG (loadVar 3 (Addr.add (Addr.add a90 (Int.toNat (0 : Int) * 2)) 1)) (w10.drew) fun v9 =>
 ∃ x92 : Int, v9 = (.int .i64 x92) ∧
 (IFB (x88 != x92)
 (Q (.bool false) (w10.drew))
 (IFB (!okv)
 (RD PG (loadVar 3 (Addr.add a11 0)) (w10.drew) fun v10 =>
 ∃ x102 : Int, v10 = (.int .i64 x102) ∧
 (IFB (x102 != (0 : Int))
 (Q (.bool false) (w10.drew))
 (RD PG (loadVar 3 (Addr.add a11 1)) (w10.drew) fun v11 =>
 ∃ x106 : Int, v11 = (.int .i64 x106) ∧
 (IFB (x106 != (0 : Int))
 (Q (.bool false) (w10.drew))
 (IFB okv
 (NEED (0 ≤ (1 : Int) ∧ (1 : Int) ≤ ((rN : Nat) : Int) ∧ ((rN : Nat) : Int) ≤ ((rC : Nat) : Int))
 (R2 (cutA r rC 2 (1 : Int)) (Int.toNat ((rN : Nat) : Int) - Int.toNat (1 : Int)) (rC - Int.toNat (1 : Int)) (w10.drew)))
 (R2 r rN rC (w10.drew)))))))
 (IFB okv
 (NEED (0 ≤ (1 : Int) ∧ (1 : Int) ≤ ((rN : Nat) : Int) ∧ ((rN : Nat) : Int) ≤ ((rC : Nat) : Int))
 (R2 (cutA r rC 2 (1 : Int)) (Int.toNat ((rN : Nat) : Int) - Int.toNat (1 : Int)) (rC - Int.toNat (1 : Int)) (w10.drew)))
 (R2 r rN rC (w10.drew))))))))))
 (IFB (!okv)
 (RD PG (loadVar 3 (Addr.add a11 0)) (w10.drew) fun v12 =>
 ∃ x102v1 : Int, v12 = (.int .i64 x102v1) ∧
 (IFB (x102v1 != (0 : Int))
 (Q (.bool false) (w10.drew))
 (RD PG (loadVar 3 (Addr.add a11 1)) (w10.drew) fun v13 =>
 ∃ x106v1 : Int, v13 = (.int .i64 x106v1) ∧
 (IFB (x106v1 != (0 : Int))
 (Q (.bool false) (w10.drew))
 (IFB okv
 (NEED (0 ≤ (1 : Int) ∧ (1 : Int) ≤ ((rN : Nat) : Int) ∧ ((rN : Nat) : Int) ≤ ((rC : Nat) : Int))
 (R2 (cutA r rC 2 (1 : Int)) (Int.toNat ((rN : Nat) : Int) - Int.toNat (1 : Int)) (rC - Int.toNat (1 : Int)) (w10.drew)))
 (R2 r rN rC (w10.drew)))))))
 (IFB okv
 (NEED (0 ≤ (1 : Int) ∧ (1 : Int) ≤ ((rN : Nat) : Int) ∧ ((rN : Nat) : Int) ≤ ((rC : Nat) : Int))
 (R2 (cutA r rC 2 (1 : Int)) (Int.toNat ((rN : Nat) : Int) - Int.toNat (1 : Int)) (rC - Int.toNat (1 : Int)) (w10.drew)))
 (R2 r rN rC (w10.drew))))))))
 (LETB ((Int.tmod (IntKind.i64.wrap ((Int.tmod x39 (7 : Int)) + (7 : Int))) (7 : Int)) == (6 : Int)) fun x114 =>
 IFB x114
 (RD PG (loadVar 3 (Addr.add a9 1)) w7 fun v14 =>
 ∃ x119 : Int, v14 = (.int .i64 x119) ∧
 (CALL PG 65 [(.slice r rN rC), (.int .i64 x119)] w7 fun v15 w11 =>
 ∃ (x120 : Option Addr) (x120N x120C : Nat), ∃ (x120v1 : Option Addr) (x120N1 x120C1 : Nat), v15 = (.tuple #[(.slice x120 x120N x120C), (.slice x120v1 x120N1 x120C1)]) ∧
 (RD PG (loadVar 3 (Addr.add a9 1)) w11 fun v16 =>
 ∃ x125 : Int, v16 = (.int .i64 x125) ∧
 (CALL PG 67 [(.pointer x20), (.int .i64 x125)] w11 fun v17 w12 =>
 ∃ (x126 : Option Addr) (x126N x126C : Nat), v17 = (.slice x126 x126N x126C) ∧
 (CALL PG 66 [(.slice x126 x126N x126C), (.slice x120v1 x120N1 x120C1)] w12 fun v18 w13 =>
 ∃ x128 : Bool, v18 = (.bool x128) ∧
 (IFB (!x128)
 (Q (.bool false) w13)
 (R2 x120 x120N x120C w13)))))))
 (LETB (decide ((rN : Int) < m2)) fun room =>
 IFB room
 (RD PG (loadVar 3 (Addr.add a9 1)) w7 fun v19 =>
 ∃ x50 : Int, v19 = (.int .i64 x50) ∧
 (RD PG (loadVar 3 (Addr.add a9 2)) w7 fun v20 =>
 ∃ x52 : Int, v20 = (.int .i64 x52) ∧
 (RD PG (Instr.build 113 #[(0, (.int .i64 x50)), (1, (.int .i64 x52))]) w7 fun v21 =>
 ∃ x53 : Int, ∃ x53v1 : Int, v21 = (.agg #[(.int .i64 x53), (.int .i64 x53v1)]) ∧
 (CALL PG 68 [(.slice r rN rC), (.agg #[(.int .i64 x53), (.int .i64 x53v1)])] w7 fun v22 w14 =>
 ∃ (x54 : Option Addr) (x54N x54C : Nat), v22 = (.slice x54 x54N x54C) ∧
 (RD PG (loadVar 3 (Addr.add a9 1)) w14 fun v23 =>
 ∃ x57 : Int, v23 = (.int .i64 x57) ∧
 (RD PG (loadVar 3 (Addr.add a9 2)) w14 fun v24 =>
 ∃ x59 : Int, v24 = (.int .i64 x59) ∧
 (CALL PG 69 [(.pointer x20), (.int .i64 x57), (.int .i64 x59)] w14 fun v25 w15 =>
 ∃ x60 : Bool, v25 = (.bool x60) ∧
 (IFB (!(x60 == room))
 (Q (.bool false) w15)
 (R2 x54 x54N x54C w15)))))))))
 (RD PG (loadVar 3 (Addr.add a9 1)) w7 fun v26 =>
 ∃ x57v1 : Int, v26 = (.int .i64 x57v1) ∧
 (RD PG (loadVar 3 (Addr.add a9 2)) w7 fun v27 =>
 ∃ x59v1 : Int, v27 = (.int .i64 x59v1) ∧
 (CALL PG 69 [(.pointer x20), (.int .i64 x57v1), (.int .i64 x59v1)] w7 fun v28 w16 =>
 ∃ x60v1 : Bool, v28 = (.bool x60v1) ∧
 (IFB (!(x60v1 == room))
 (Q (.bool false) w16)
 (R2 r rN rC w16))))))))))))) ∧
 (∀ (r1 : Option Addr) (rN1 rC1 : Nat) (w17 : World), R2 r1 rN1 rC1 w17 → (CALL PG 70 [(.pointer x20)] w17 fun v29 w18 =>
 ∃ x132 : Int, ∃ x132v1 : Int, ∃ x132v2 : Int, ∃ x132v3 : Bool, v29 = (.tuple #[(.agg #[(.int .i64 x132), (.int .i64 x132v1), (.int .i64 x132v2)]), (.bool x132v3)]) ∧
 (RUN PG (Instr.alloc 109 true (.tuple #[])) w18 fun v30 w19 =>
 ∃ a14 : Addr, v30 = (.pointer (some a14)) ∧
 (RUNU PG (storeVar 109 a14 (.agg #[(.int .i64 x132), (.int .i64 x132v1), (.int .i64 x132v2)])) w19 fun w20 =>
 LETB x132v3 fun okv1 =>
 ∃ S : World → Prop, S (w20.drew) ∧
 (CALL PG 71 [(.pointer x20)] (w20.drew) fun v31 w21 =>
 ∃ x136 : Int, v31 = (.int .i64 x136) ∧
 (∃ S1 : World → Prop, (∀ x, S1 x → S x) ∧ S1 w21 ∧
 (IFB (x136 != (rN1 : Int))
 (Q (.bool false) w21)
 (IFB (!(okv1 == (decide ((rN1 : Int) > (0 : Int)))))
 (Q (.bool false) w21)
 (IFB okv1
 (RDS PG (loadVar 3 (Addr.add a14 0)) S1 fun v32 =>
 ∃ x151 : Int, v32 = (.int .i64 x151) ∧
 (IDX r1 rN1 (0 : Int) fun a153 =>
 RDS PG (loadVar 3 (Addr.add (Addr.add a153 (Int.toNat (0 : Int) * 2)) 0)) S1 fun v33 =>
 ∃ x155 : Int, v33 = (.int .i64 x155) ∧
 (IFB (x151 != x155)
 (Q (.bool false) w21)
 (RDS PG (loadVar 3 (Addr.add a14 1)) S1 fun v34 =>
 ∃ x159 : Int, v34 = (.int .i64 x159) ∧
 (IDX r1 rN1 (0 : Int) fun a161 =>
 RDS PG (loadVar 3 (Addr.add (Addr.add a161 (Int.toNat (0 : Int) * 2)) 1)) S1 fun v35 =>
 ∃ x163 : Int, v35 = (.int .i64 x163) ∧
 (IFB (x159 != x163)
 (Q (.bool false) w21)
 (LETI (IntKind.i64.wrap (i + (1 : Int))) fun i1 =>
 ∃ m5, m5 < m4 ∧ I m5 r1 rN1 rC1 i1 w21)))))))
 (LETI (IntKind.i64.wrap (i + (1 : Int))) fun i2 =>
 ∃ m6, m6 < m4 ∧ I m6 r1 rN1 rC1 i2 w21)))))))))))))
 (CALL PG 72 [] w4 fun v36 w22 =>
 ∃ x168 : Bool, v36 = (.bool x168) ∧
 (LETB x168 fun x4 =>
 Q (.bool x4) w22)))))))))))
theorem eq12 : ∀ (most : Int) (l : Option Addr) (lN lC : Nat) (w : World) (Q : Value → World → Prop), vcF PG TB Try.f12 (.s .nil (.s .nil (.s .nil (.s .nil (.s .nil (.cut [(6, 3)] .nil (.cut [(6, 3)] .nil (.s .nil (.s (.s .nil (.u (.loop [(7, 105), (8, 3)] (.s .nil (.s (.u (.s .nil (.s .nil (.cut [(7, 105)] (.s .nil (.u (.cut [(63, 4)] .nil .nil))) .nil)))) .nil))))) .nil))))))))) [(.int .i64 most), (.slice l lN lC)] w Q = N12 most l lN lC w Q := by intros; kernel_rfl
theorem call12 {most : Int} {l : Option Addr} {lN lC : Nat} {w : World} {Q : Value → World → Prop} (hN : N12 most l lN lC w Q) : CALL PG 12 [(.int .i64 most), (.slice l lN lC)] w Q := calls_vc tabOk Try.func12 (by rw [eq12]; exact hN)

end Go.Br
