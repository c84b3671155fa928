/- What the code of some functions says, as the core reads it; each reading is checked by the kernel. -/
import Derived.Test.YtggajodoaooafaaBrSeat
set_option linter.unusedVariables false
set_option maxRecDepth 100000
namespace Go.Br
open Go Go.Proofs

/-- brougham/broughamlaw32.LinkPlays -/
def N6 (m : Int) (m1 : Int) (m2 : Int) (m3 : Int) (m4 : Int) (m5 : Int) (seed : Int) (l : Option Addr) (lN lC : Nat) (w : World) (Q : Value → World → Prop) : Prop :=
 RUNA PG (Instr.box 64 (.agg #[(.int .i64 m), (.int .i64 m1), (.int .i64 m2), (.int .i64 m3), (.int .i64 m4), (.int .i64 m5)])) w fun a3 w1 =>
 IFB (decide ((lN : Int) > (200 : Int)))
 (Q (.bool true) w1)
 (RD PG (loadVar 64 a3) w1 fun v =>
 ∃ x16 : Int, ∃ x16v1 : Int, ∃ x16v2 : Int, ∃ x16v3 : Int, ∃ x16v4 : Int, ∃ x16v5 : Int, v = (.agg #[(.int .i64 x16), (.int .i64 x16v1), (.int .i64 x16v2), (.int .i64 x16v3), (.int .i64 x16v4), (.int .i64 x16v5)]) ∧
 (CALL PG 30 [(.agg #[(.int .i64 x16), (.int .i64 x16v1), (.int .i64 x16v2), (.int .i64 x16v3), (.int .i64 x16v4), (.int .i64 x16v5)]), (.int .u64 seed)] w1 fun v1 w2 =>
 ∃ x18 : Option Addr, ∃ x18v1 : Int, v1 = (.tuple #[(.pointer x18), (.int .i64 x18v1)]) ∧
 (LETI x18v1 fun e =>
 RD PG (loadVar 64 a3) w2 fun v2 =>
 ∃ x21 : Int, ∃ x21v1 : Int, ∃ x21v2 : Int, ∃ x21v3 : Int, ∃ x21v4 : Int, ∃ x21v5 : Int, v2 = (.agg #[(.int .i64 x21), (.int .i64 x21v1), (.int .i64 x21v2), (.int .i64 x21v3), (.int .i64 x21v4), (.int .i64 x21v5)]) ∧
 (CALL PG 32 [(.agg #[(.int .i64 x21), (.int .i64 x21v1), (.int .i64 x21v2), (.int .i64 x21v3), (.int .i64 x21v4), (.int .i64 x21v5)])] w2 fun v3 w3 =>
 ∃ x22 : Int, ∃ x22v1 : Int, ∃ x22v2 : Int, ∃ x22v3 : Int, ∃ x22v4 : Int, ∃ x22v5 : Int, v3 = (.agg #[(.int .i64 x22), (.int .i64 x22v1), (.int .i64 x22v2), (.int .i64 x22v3), (.int .i64 x22v4), (.int .i64 x22v5)]) ∧
 (CALL PG 31 [(.agg #[(.int .i64 x22), (.int .i64 x22v1), (.int .i64 x22v2), (.int .i64 x22v3), (.int .i64 x22v4), (.int .i64 x22v5)])] w3 fun v4 w4 =>
 ∃ x23 : Bool, v4 = (.bool x23) ∧
 (IFB (!x23)
 (RD PG (loadVar 64 a3) w4 fun v5 =>
 ∃ x25 : Int, ∃ x25v1 : Int, ∃ x25v2 : Int, ∃ x25v3 : Int, ∃ x25v4 : Int, ∃ x25v5 : Int, v5 = (.agg #[(.int .i64 x25), (.int .i64 x25v1), (.int .i64 x25v2), (.int .i64 x25v3), (.int .i64 x25v4), (.int .i64 x25v5)]) ∧
 (CALL PG 33 [(.agg #[(.int .i64 x25), (.int .i64 x25v1), (.int .i64 x25v2), (.int .i64 x25v3), (.int .i64 x25v4), (.int .i64 x25v5)])] w4 fun v6 w5 =>
 ∃ x26 : Bool, v6 = (.bool x26) ∧
 (IFB (!x26)
 (IFB (e == (200 : Int))
 (IFB (x18.isNone)
 (CALL PG 29 [] w5 fun v7 w6 =>
 ∃ x37 : Bool, v7 = (.bool x37) ∧
 (LETB x37 fun x6 =>
 Q (.bool x6) w6))
 (LETB false fun x6v1 =>
 Q (.bool x6v1) w5))
 (LETB false fun x6v2 =>
 Q (.bool x6v2) w5))
 (LETB false fun x6v3 =>
 Q (.bool x6v3) w5))))
 (RD PG (loadVar 64 a3) w4 fun v8 =>
 ∃ x39 : Int, ∃ x39v1 : Int, ∃ x39v2 : Int, ∃ x39v3 : Int, ∃ x39v4 : Int, ∃ x39v5 : Int, v8 = (.agg #[(.int .i64 x39), (.int .i64 x39v1), (.int .i64 x39v2), (.int .i64 x39v3), (.int .i64 x39v4), (.int .i64 x39v5)]) ∧
 (CALL PG 33 [(.agg #[(.int .i64 x39), (.int .i64 x39v1), (.int .i64 x39v2), (.int .i64 x39v3), (.int .i64 x39v4), (.int .i64 x39v5)])] w4 fun v9 w7 =>
 ∃ x40 : Bool, v9 = (.bool x40) ∧
 (IFB (!x40)
 (Q (.bool false) w7)
 (IFB (e != (0 : Int))
 (Q (.bool false) w7)
 (IFB (x18.isNone)
 (Q (.bool false) w7)
 (RD PG (loadVar 64 a3) w7 fun v10 =>
 ∃ x50 : Int, ∃ x50v1 : Int, ∃ x50v2 : Int, ∃ x50v3 : Int, ∃ x50v4 : Int, ∃ x50v5 : Int, v10 = (.agg #[(.int .i64 x50), (.int .i64 x50v1), (.int .i64 x50v2), (.int .i64 x50v3), (.int .i64 x50v4), (.int .i64 x50v5)]) ∧
 (CALL PG 32 [(.agg #[(.int .i64 x50), (.int .i64 x50v1), (.int .i64 x50v2), (.int .i64 x50v3), (.int .i64 x50v4), (.int .i64 x50v5)])] w7 fun v11 w8 =>
 ∃ x51 : Int, ∃ x51v1 : Int, ∃ x51v2 : Int, ∃ x51v3 : Int, ∃ x51v4 : Int, ∃ x51v5 : Int, v11 = (.agg #[(.int .i64 x51), (.int .i64 x51v1), (.int .i64 x51v2), (.int .i64 x51v3), (.int .i64 x51v4), (.int .i64 x51v5)]) ∧
 (CALL PG 34 [(.agg #[(.int .i64 x51), (.int .i64 x51v1), (.int .i64 x51v2), (.int .i64 x51v3), (.int .i64 x51v4), (.int .i64 x51v5)]), (.int .u64 seed)] w8 fun v12 w9 =>
 ∃ x53 : Int, ∃ x53v1 : Int, ∃ x53v2 : Int, ∃ x53v3 : Int, ∃ x53v4 : Int, ∃ x53v5 : Int, ∃ x53v6 : Int, ∃ x53v7 : Int, ∃ (x53v8 : Option Addr) (x53N x53C : Nat), ∃ x53v9 : Int, ∃ x53v10 : Int, ∃ x53v11 : Int, ∃ x53v12 : Int, ∃ x53v13 : Int, v12 = (.agg #[(.int .i64 x53), (.int .i64 x53v1), (.int .i64 x53v2), (.int .i64 x53v3), (.int .i64 x53v4), (.int .i64 x53v5), (.int .u64 x53v6), (.int .i64 x53v7), (.slice x53v8 x53N x53C), (.int .i64 x53v9), (.int .i64 x53v10), (.int .i64 x53v11), (.int .i64 x53v12), (.int .i64 x53v13)]) ∧
 (RUNA PG (Instr.alloc 76 true (.tuple #[])) w9 fun a9 w10 =>
 RUNU PG (storeVar 76 a9 (.agg #[(.int .i64 x53), (.int .i64 x53v1), (.int .i64 x53v2), (.int .i64 x53v3), (.int .i64 x53v4), (.int .i64 x53v5), (.int .u64 x53v6), (.int .i64 x53v7), (.slice x53v8 x53N x53C), (.int .i64 x53v9), (.int .i64 x53v10), (.int .i64 x53v11), (.int .i64 x53v12), (.int .i64 x53v13)])) w10 fun w11 =>
 ∃ I : Nat → Int → World → Prop,
 (∃ m6, I m6 (0 : Int) w11) ∧
 (∀ m7 (i : Int) (w12 : World), I m7 i w12 → (IFB (decide (i < (lN : Int)))
 (IDX l lN i fun a62 =>
 RDL PG (loadVar 30 (Addr.add a62 (Int.toNat i * 1))) w12 fun x63 x63N x63C =>
 IFB (decide ((x63N : Int) > (300 : Int)))
 (Q (.bool true) w12)
 (∃ R : World → Prop,
 (IDX l lN i fun a68 =>
 RDL PG (loadVar 30 (Addr.add a68 (Int.toNat i * 1))) w12 fun x69 x69N x69C =>
 IFB ((x69N : Int) == (0 : Int))
 (RD PG (loadVar 76 a9) w12 fun v13 =>
 ∃ x73 : Int, ∃ x73v1 : Int, ∃ x73v2 : Int, ∃ x73v3 : Int, ∃ x73v4 : Int, ∃ x73v5 : Int, ∃ x73v6 : Int, ∃ x73v7 : Int, ∃ (x73v8 : Option Addr) (x73N x73C : Nat), ∃ x73v9 : Int, ∃ x73v10 : Int, ∃ x73v11 : Int, ∃ x73v12 : Int, ∃ x73v13 : Int, v13 = (.agg #[(.int .i64 x73), (.int .i64 x73v1), (.int .i64 x73v2), (.int .i64 x73v3), (.int .i64 x73v4), (.int .i64 x73v5), (.int .u64 x73v6), (.int .i64 x73v7), (.slice x73v8 x73N x73C), (.int .i64 x73v9), (.int .i64 x73v10), (.int .i64 x73v11), (.int .i64 x73v12), (.int .i64 x73v13)]) ∧
 (CALL PG 35 [(.agg #[(.int .i64 x73), (.int .i64 x73v1), (.int .i64 x73v2), (.int .i64 x73v3), (.int .i64 x73v4), (.int .i64 x73v5), (.int .u64 x73v6), (.int .i64 x73v7), (.slice x73v8 x73N x73C), (.int .i64 x73v9), (.int .i64 x73v10), (.int .i64 x73v11), (.int .i64 x73v12), (.int .i64 x73v13)])] w12 fun v14 w13 =>
 ∃ x74 : Int, ∃ x74v1 : Int, ∃ x74v2 : Int, ∃ x74v3 : Int, ∃ x74v4 : Int, ∃ x74v5 : Int, ∃ x74v6 : Int, ∃ x74v7 : Int, ∃ (x74v8 : Option Addr) (x74N x74C : Nat), ∃ x74v9 : Int, ∃ x74v10 : Int, ∃ x74v11 : Int, ∃ x74v12 : Int, ∃ x74v13 : Int, ∃ (x74v14 : Option Addr) (x74N1 x74C1 : Nat), v14 = (.tuple #[(.agg #[(.int .i64 x74), (.int .i64 x74v1), (.int .i64 x74v2), (.int .i64 x74v3), (.int .i64 x74v4), (.int .i64 x74v5), (.int .u64 x74v6), (.int .i64 x74v7), (.slice x74v8 x74N x74C), (.int .i64 x74v9), (.int .i64 x74v10), (.int .i64 x74v11), (.int .i64 x74v12), (.int .i64 x74v13)]), (.slice x74v14 x74N1 x74C1)]) ∧
 (RUNU PG (storeVar 76 a9 (.agg #[(.int .i64 x74), (.int .i64 x74v1), (.int .i64 x74v2), (.int .i64 x74v3), (.int .i64 x74v4), (.int .i64 x74v5), (.int .u64 x74v6), (.int .i64 x74v7), (.slice x74v8 x74N x74C), (.int .i64 x74v9), (.int .i64 x74v10), (.int .i64 x74v11), (.int .i64 x74v12), (.int .i64 x74v13)])) w13 fun w14 =>
 CALL PG 37 [(.pointer x18)] w14 fun v15 w15 =>
 ∃ (x78 : Option Addr) (x78N x78C : Nat), v15 = (.slice x78 x78N x78C) ∧
 (CALL PG 36 [(.slice x78 x78N x78C), (.slice x74v14 x74N1 x74C1)] w15 fun v16 w16 =>
 ∃ x80 : Bool, v16 = (.bool x80) ∧
 (IFB (!x80)
 (Q (.bool false) w16)
 (R w16))))))
 (IDX l lN i fun a85 =>
 RDL PG (loadVar 30 (Addr.add a85 (Int.toNat i * 1))) w12 fun x86 x86N x86C =>
 CALL PG 38 [(.pointer x18), (.slice x86 x86N x86C)] w12 fun v17 w17 =>
 v17 = (.tuple #[]) ∧
 (RD PG (loadVar 76 a9) (w17.drew) fun v18 =>
 ∃ x88 : Int, ∃ x88v1 : Int, ∃ x88v2 : Int, ∃ x88v3 : Int, ∃ x88v4 : Int, ∃ x88v5 : Int, ∃ x88v6 : Int, ∃ x88v7 : Int, ∃ (x88v8 : Option Addr) (x88N x88C : Nat), ∃ x88v9 : Int, ∃ x88v10 : Int, ∃ x88v11 : Int, ∃ x88v12 : Int, ∃ x88v13 : Int, v18 = (.agg #[(.int .i64 x88), (.int .i64 x88v1), (.int .i64 x88v2), (.int .i64 x88v3), (.int .i64 x88v4), (.int .i64 x88v5), (.int .u64 x88v6), (.int .i64 x88v7), (.slice x88v8 x88N x88C), (.int .i64 x88v9), (.int .i64 x88v10), (.int .i64 x88v11), (.int .i64 x88v12), (.int .i64 x88v13)]) ∧
 (IDX l lN i fun a91 =>
 RDL PG (loadVar 30 (Addr.add a91 (Int.toNat i * 1))) (w17.drew) fun x92 x92N x92C =>
 RDT PG (convert 30 9 (.slice x92 x92N x92C)) (w17.drew) fun x93 =>
 CALL PG 39 [(.agg #[(.int .i64 x88), (.int .i64 x88v1), (.int .i64 x88v2), (.int .i64 x88v3), (.int .i64 x88v4), (.int .i64 x88v5), (.int .u64 x88v6), (.int .i64 x88v7), (.slice x88v8 x88N x88C), (.int .i64 x88v9), (.int .i64 x88v10), (.int .i64 x88v11), (.int .i64 x88v12), (.int .i64 x88v13)]), (.string x93)] (w17.drew) fun v19 w18 =>
 ∃ x94 : Int, ∃ x94v1 : Int, ∃ x94v2 : Int, ∃ x94v3 : Int, ∃ x94v4 : Int, ∃ x94v5 : Int, ∃ x94v6 : Int, ∃ x94v7 : Int, ∃ (x94v8 : Option Addr) (x94N x94C : Nat), ∃ x94v9 : Int, ∃ x94v10 : Int, ∃ x94v11 : Int, ∃ x94v12 : Int, ∃ x94v13 : Int, v19 = (.agg #[(.int .i64 x94), (.int .i64 x94v1), (.int .i64 x94v2), (.int .i64 x94v3), (.int .i64 x94v4), (.int .i64 x94v5), (.int .u64 x94v6), (.int .i64 x94v7), (.slice x94v8 x94N x94C), (.int .i64 x94v9), (.int .i64 x94v10), (.int .i64 x94v11), (.int .i64 x94v12), (.int .i64 x94v13)]) ∧
 (RUNU PG (storeVar 76 a9 (.agg #[(.int .i64 x94), (.int .i64 x94v1), (.int .i64 x94v2), (.int .i64 x94v3), (.int .i64 x94v4), (.int .i64 x94v5), (.int .u64 x94v6), (.int .i64 x94v7), (.slice x94v8 x94N x94C), (.int .i64 x94v9), (.int .i64 x94v10), (.int .i64 x94v11), (.int .i64 x94v12), (.int .i64 x94v13)])) w18 fun w19 =>
 R w19))))) ∧
 (∀  (w20 : World), R w20 → (∃ S : World → Prop, S (w20.drew) ∧
 (RDSL PG (loadVar 74 (Addr.add a9 8)) S fun x98 x98N x98C =>
 CALL PG 40 [(.pointer x18)] (w20.drew) fun v20 w21 =>
 ∃ x96 : Int, v20 = (.int .i64 x96) ∧
 (∃ S1 : World → Prop, (∀ x, S1 x → S x) ∧ S1 w21 ∧
 (IFB (x96 != (x98N : Int))
 (Q (.bool false) w21)
 (RDSI PG (loadVar 3 (Addr.add a9 9)) .i64 S1 fun x105 =>
 RDSI PG (loadVar 3 (Addr.add a9 10)) .i64 S1 fun x107 =>
 RDSI PG (loadVar 3 (Addr.add a9 11)) .i64 S1 fun x109 =>
 RDSI PG (loadVar 3 (Addr.add a9 12)) .i64 S1 fun x111 =>
 RDSI PG (loadVar 3 (Addr.add a9 13)) .i64 S1 fun x113 =>
 RDS PG (Instr.build 87 #[(0, (.int .i64 x105)), (1, (.int .i64 x107)), (2, (.int .i64 x109)), (3, (.int .i64 x111)), (4, (.int .i64 x113))]) S1 fun v21 =>
 ∃ x114 : Int, ∃ x114v1 : Int, ∃ x114v2 : Int, ∃ x114v3 : Int, ∃ x114v4 : Int, v21 = (.agg #[(.int .i64 x114), (.int .i64 x114v1), (.int .i64 x114v2), (.int .i64 x114v3), (.int .i64 x114v4)]) ∧
 (CALL PG 41 [(.pointer x18)] w21 fun v22 w22 =>
 ∃ x103 : Int, ∃ x103v1 : Int, ∃ x103v2 : Int, ∃ x103v3 : Int, ∃ x103v4 : Int, v22 = (.agg #[(.int .i64 x103), (.int .i64 x103v1), (.int .i64 x103v2), (.int .i64 x103v3), (.int .i64 x103v4)]) ∧
 (∃ S2 : World → Prop, (∀ x, S2 x → S1 x) ∧ S2 w22 ∧
 (RDSB PG (do eqGuard .neq 87 (.tmp 103) (.tmp 114) (.agg #[(.int .i64 x103), (.int .i64 x103v1), (.int .i64 x103v2), (.int .i64 x103v3), (.int .i64 x103v4)]) (.agg #[(.int .i64 x114), (.int .i64 x114v1), (.int .i64 x114v2), (.int .i64 x114v3), (.int .i64 x114v4)]); binOp .neq 87 (.agg #[(.int .i64 x103), (.int .i64 x103v1), (.int .i64 x103v2), (.int .i64 x103v3), (.int .i64 x103v4)]) (.agg #[(.int .i64 x114), (.int .i64 x114v1), (.int .i64 x114v2), (.int .i64 x114v3), (.int .i64 x114v4)])) S2 fun x115 =>
 IFB x115
 (Q (.bool false) w22)
 (LETI (IntKind.i64.wrap (i + (1 : Int))) fun i1 =>
 ∃ m8, m8 < m7 ∧ I m8 i1 w22))))))))))))
 (CALL PG 29 [] w12 fun v23 w23 =>
 ∃ x117 : Bool, v23 = (.bool x117) ∧
 (LETB x117 fun x6v4 =>
 Q (.bool x6v4) w23)))))))))))))))))))
theorem eq6 : ∀ (m : Int) (m1 : Int) (m2 : Int) (m3 : Int) (m4 : Int) (m5 : Int) (seed : Int) (l : Option Addr) (lN lC : Nat) (w : World) (Q : Value → World → Prop), vcF PG TB Try.f6 (.s .nil (.s .nil (.s .nil (.s .nil (.s .nil (.s .nil (.s (.s .nil (.u (.loop [(10, 3)] (.s .nil (.s (.u (.s .nil (.s .nil (.cut [] .nil .nil)))) .nil))))) .nil))))))) [(.agg #[(.int .i64 m), (.int .i64 m1), (.int .i64 m2), (.int .i64 m3), (.int .i64 m4), (.int .i64 m5)]), (.int .u64 seed), (.slice l lN lC)] w Q = N6 m m1 m2 m3 m4 m5 seed l lN lC w Q := by intros; kernel_rfl
theorem call6 {m : Int} {m1 : Int} {m2 : Int} {m3 : Int} {m4 : Int} {m5 : Int} {seed : Int} {l : Option Addr} {lN lC : Nat} {w : World} {Q : Value → World → Prop} (hN : N6 m m1 m2 m3 m4 m5 seed l lN lC w Q) : CALL PG 6 [(.agg #[(.int .i64 m), (.int .i64 m1), (.int .i64 m2), (.int .i64 m3), (.int .i64 m4), (.int .i64 m5)]), (.int .u64 seed), (.slice l lN lC)] w Q := calls_vc tabOk Try.func6 (by rw [eq6]; exact hN)

/-- brougham/broughamlaw32.rows -/
def N36 (a : Option Addr) (aN aC : Nat) (b : Option Addr) (bN bC : Nat) (w : World) (Q : Value → World → Prop) : Prop :=
 IFB ((aN : Int) != (bN : Int))
 (Q (.bool false) w)
 (∃ I : Nat → Int → World → Prop,
 (∃ m, I m (0 : Int) w) ∧
 (∀ m1 (i : Int) (w1 : World), I m1 i w1 → (IFB (decide (i < (aN : Int)))
 (IDX a aN i fun a19 =>
 RDL PG (loadVar 30 (Addr.add a19 (Int.toNat i * 1))) (w1.drew) fun x20 x20N x20C =>
 RDT PG (convert 30 9 (.slice x20 x20N x20C)) (w1.drew) fun x21 =>
 IDX b bN i fun a24 =>
 RDT PG (loadVar 9 (Addr.add a24 (Int.toNat i * 1))) (w1.drew) fun x25 =>
 IFB (!(x21.toList == x25.toList))
 (Q (.bool false) (w1.drew))
 (LETI (IntKind.i64.wrap (i + (1 : Int))) fun i1 =>
 ∃ m2, m2 < m1 ∧ I m2 i1 (w1.drew)))
 (Q (.bool true) w1))))
theorem eq36 : ∀ (a : Option Addr) (aN aC : Nat) (b : Option Addr) (bN bC : Nat) (w : World) (Q : Value → World → Prop), vcF PG TB Try.f36 (.s .nil (.s .nil (.s (.s .nil (.u (.loop [(5, 3)] .nil))) .nil))) [(.slice a aN aC), (.slice b bN bC)] w Q = N36 a aN aC b bN bC w Q := by intros; kernel_rfl
theorem call36 {a : Option Addr} {aN aC : Nat} {b : Option Addr} {bN bC : Nat} {w : World} {Q : Value → World → Prop} (hN : N36 a aN aC b bN bC w Q) : CALL PG 36 [(.slice a aN aC), (.slice b bN bC)] w Q := calls_vc tabOk Try.func36 (by rw [eq36]; exact hN)

end Go.Br
