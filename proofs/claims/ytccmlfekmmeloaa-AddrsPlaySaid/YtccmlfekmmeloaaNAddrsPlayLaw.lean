/- What the code of some functions says, as the core reads it; each reading is checked by the kernel. -/
import Derived.Test.YtccmlfekmmeloaaBrSeat
set_option linter.unusedVariables false
set_option maxRecDepth 100000
namespace Go.Br
open Go Go.Proofs

/-- brougham/broughamlaw20.AddrsPlay -/
def N11 (most : Int) (paths : Int) (l : Option Addr) (lN lC : Nat) (w : World) (Q : Value → World → Prop) : Prop :=
 IFB (decide ((lN : Int) > (300 : Int)))
 (Q (.bool true) w)
 (CALL PG 12 [(.int .i64 most), (.int .i64 paths)] w fun v w1 =>
 ∃ x17 : Option Addr, v = (.pointer x17) ∧
 (IFB (x17.isNone)
 (Q (.bool false) w1)
 (NILC x17 fun a22 =>
 RDP PG (loadVar 27 (Addr.add a22 0)) w1 fun x24 =>
 IFB (x24.isNone)
 (Q (.bool false) w1)
 (CALL PG 55 [(.int .i64 most), (.int .i64 paths)] w1 fun v1 w2 =>
 ∃ x29 : Int, ∃ x29v1 : Int, ∃ (x29v2 : Option Addr) (x29N x29C : Nat), ∃ x29v3 : Int, ∃ x29v4 : Int, ∃ x29v5 : Int, v1 = (.agg #[(.int .i64 x29), (.int .i64 x29v1), (.slice x29v2 x29N x29C), (.int .i64 x29v3), (.int .i64 x29v4), (.int .i64 x29v5)]) ∧
 (RUNA PG (Instr.alloc 113 true (.tuple #[])) w2 fun a8 w3 =>
 RUNU PG (storeVar 113 a8 (.agg #[(.int .i64 x29), (.int .i64 x29v1), (.slice x29v2 x29N x29C), (.int .i64 x29v3), (.int .i64 x29v4), (.int .i64 x29v5)])) w3 fun w4 =>
 ∃ I : Nat → Int → World → Prop,
 (∃ m, I m (0 : Int) w4) ∧
 (∀ m1 (i : Int) (w5 : World), I m1 i w5 → (IFB (decide (i < (lN : Int)))
 (∃ R : Bool → Bool → World → Prop,
 (IDX l lN i fun a38 =>
 RDI PG (loadVar 3 (Addr.add (Addr.add a38 (Int.toNat i * 4)) 0)) .i64 w5 fun x40 =>
 NEED ((5 : Int) ≠ 0)
 (NEED ((5 : Int) ≠ 0)
 (LETB ((Int.tmod (IntKind.i64.wrap ((Int.tmod x40 (5 : Int)) + (5 : Int))) (5 : Int)) == (3 : Int)) fun x69 =>
 IFB x69
 (RD PG (loadVar 113 a8) (w5.drew) fun v2 =>
 ∃ x72 : Int, ∃ x72v1 : Int, ∃ (x72v2 : Option Addr) (x72N x72C : Nat), ∃ x72v3 : Int, ∃ x72v4 : Int, ∃ x72v5 : Int, v2 = (.agg #[(.int .i64 x72), (.int .i64 x72v1), (.slice x72v2 x72N x72C), (.int .i64 x72v3), (.int .i64 x72v4), (.int .i64 x72v5)]) ∧
 (IDX l lN i fun a75 =>
 RDI PG (loadVar 3 (Addr.add (Addr.add (Addr.add a75 (Int.toNat i * 4)) 2) 0)) .i64 (w5.drew) fun x78 =>
 CALL PG 56 [(.agg #[(.int .i64 x72), (.int .i64 x72v1), (.slice x72v2 x72N x72C), (.int .i64 x72v3), (.int .i64 x72v4), (.int .i64 x72v5)]), (.int .i64 x78)] (w5.drew) fun v3 w6 =>
 ∃ x79 : Int, ∃ x79v1 : Int, ∃ (x79v2 : Option Addr) (x79N x79C : Nat), ∃ x79v3 : Int, ∃ x79v4 : Int, ∃ x79v5 : Int, ∃ x79v6 : Bool, v3 = (.tuple #[(.agg #[(.int .i64 x79), (.int .i64 x79v1), (.slice x79v2 x79N x79C), (.int .i64 x79v3), (.int .i64 x79v4), (.int .i64 x79v5)]), (.bool x79v6)]) ∧
 (∃ S : World → Prop, S w6 ∧
 (RUNU PG (storeVar 113 a8 (.agg #[(.int .i64 x79), (.int .i64 x79v1), (.slice x79v2 x79N x79C), (.int .i64 x79v3), (.int .i64 x79v4), (.int .i64 x79v5)])) w6 fun w7 =>
 ∃ S1 : World → Prop, (∀ x, S1 x → S x) ∧ S1 w7 ∧
 (LETB x79v6 fun okv =>
 IDX l lN i fun a85 =>
 RDI PG (loadVar 3 (Addr.add (Addr.add (Addr.add a85 (Int.toNat i * 4)) 2) 0)) .i64 w7 fun x88 =>
 CALL PG 16 [(.pointer x17), (.int .i64 x88)] w7 fun v4 w8 =>
 ∃ x89 : Bool, v4 = (.bool x89) ∧
 (LETB x89 fun isv =>
 R okv isv w8))))))
 (LETB ((Int.tmod (IntKind.i64.wrap ((Int.tmod x40 (5 : Int)) + (5 : Int))) (5 : Int)) == (4 : Int)) fun x90 =>
 IFB x90
 (NILC x17 fun a93 =>
 RDP PG (loadVar 27 (Addr.add a93 0)) (w5.drew) fun x95 =>
 IDX l lN i fun a98 =>
 RDI PG (loadVar 3 (Addr.add (Addr.add a98 (Int.toNat i * 4)) 1)) .i64 (w5.drew) fun x100 =>
 CALL PG 14 [(.pointer x95), (.int .i64 x100)] (w5.drew) fun v5 w9 =>
 v5 = (.tuple #[]) ∧
 (RD PG (loadVar 111 (Addr.add a8 3)) (w9.drew) fun v6 =>
 ∃ x103 : Int, ∃ x103v1 : Int, ∃ x103v2 : Int, v6 = (.agg #[(.int .i64 x103), (.int .i64 x103v1), (.int .i64 x103v2)]) ∧
 (IDX l lN i fun a106 =>
 RDI PG (loadVar 3 (Addr.add (Addr.add a106 (Int.toNat i * 4)) 1)) .i64 (w9.drew) fun x108 =>
 CALL PG 57 [(.agg #[(.int .i64 x103), (.int .i64 x103v1), (.int .i64 x103v2)]), (.int .i64 x108)] (w9.drew) fun v7 w10 =>
 ∃ x109 : Int, ∃ x109v1 : Int, ∃ x109v2 : Int, v7 = (.agg #[(.int .i64 x109), (.int .i64 x109v1), (.int .i64 x109v2)]) ∧
 (RUNU PG (storeVar 111 (Addr.add a8 3) (.agg #[(.int .i64 x109), (.int .i64 x109v1), (.int .i64 x109v2)])) w10 fun w11 =>
 R false false w11))))
 (RD PG (loadVar 113 a8) (w5.drew) fun v8 =>
 ∃ x45 : Int, ∃ x45v1 : Int, ∃ (x45v2 : Option Addr) (x45N x45C : Nat), ∃ x45v3 : Int, ∃ x45v4 : Int, ∃ x45v5 : Int, v8 = (.agg #[(.int .i64 x45), (.int .i64 x45v1), (.slice x45v2 x45N x45C), (.int .i64 x45v3), (.int .i64 x45v4), (.int .i64 x45v5)]) ∧
 (IDX l lN i fun a48 =>
 RDI PG (loadVar 3 (Addr.add (Addr.add (Addr.add a48 (Int.toNat i * 4)) 2) 0)) .i64 (w5.drew) fun x51 =>
 IDX l lN i fun a54 =>
 RDI PG (loadVar 3 (Addr.add (Addr.add (Addr.add a54 (Int.toNat i * 4)) 2) 1)) .i64 (w5.drew) fun x57 =>
 RD PG (Instr.build 119 #[(0, (.int .i64 x51)), (1, (.int .i64 x57))]) (w5.drew) fun v9 =>
 ∃ x58 : Int, ∃ x58v1 : Int, v9 = (.agg #[(.int .i64 x58), (.int .i64 x58v1)]) ∧
 (CALL PG 58 [(.agg #[(.int .i64 x45), (.int .i64 x45v1), (.slice x45v2 x45N x45C), (.int .i64 x45v3), (.int .i64 x45v4), (.int .i64 x45v5)]), (.agg #[(.int .i64 x58), (.int .i64 x58v1)])] (w5.drew) fun v10 w12 =>
 ∃ x59 : Int, ∃ x59v1 : Int, ∃ (x59v2 : Option Addr) (x59N x59C : Nat), ∃ x59v3 : Int, ∃ x59v4 : Int, ∃ x59v5 : Int, ∃ x59v6 : Bool, v10 = (.tuple #[(.agg #[(.int .i64 x59), (.int .i64 x59v1), (.slice x59v2 x59N x59C), (.int .i64 x59v3), (.int .i64 x59v4), (.int .i64 x59v5)]), (.bool x59v6)]) ∧
 (∃ S2 : World → Prop, S2 w12 ∧
 (RUNU PG (storeVar 113 a8 (.agg #[(.int .i64 x59), (.int .i64 x59v1), (.slice x59v2 x59N x59C), (.int .i64 x59v3), (.int .i64 x59v4), (.int .i64 x59v5)])) w12 fun w13 =>
 ∃ S3 : World → Prop, (∀ x, S3 x → S2 x) ∧ S3 w13 ∧
 (LETB x59v6 fun okv1 =>
 IDX l lN i fun a65 =>
 RD PG (loadVar 24 (Addr.add (Addr.add a65 (Int.toNat i * 4)) 2)) w13 fun v11 =>
 ∃ x67 : Int, ∃ x67v1 : Int, v11 = (.agg #[(.int .i64 x67), (.int .i64 x67v1)]) ∧
 (CALL PG 13 [(.pointer x17), (.agg #[(.int .i64 x67), (.int .i64 x67v1)])] w13 fun v12 w14 =>
 ∃ x68 : Bool, v12 = (.bool x68) ∧
 (LETB x68 fun isv1 =>
 R okv1 isv1 w14)))))))))))) ∧
 (∀ (okv2 : Bool) (isv2 : Bool) (w15 : World), R okv2 isv2 w15 → (∃ S4 : World → Prop, S4 (w15.drew) ∧
 (IFB (!(okv2 == isv2))
 (∃ S5 : World → Prop, S5 (w15.drew) ∧
 (Q (.bool false) (w15.drew)))
 (RDSL PG (loadVar 109 (Addr.add a8 2)) S4 fun x118 x118N x118C =>
 CALL PG 15 [(.pointer x17)] (w15.drew) fun v13 w16 =>
 ∃ (x116 : Option Addr) (x116N x116C : Nat), v13 = (.slice x116 x116N x116C) ∧
 (∃ S6 : World → Prop, (∀ x, S6 x → S4 x) ∧ S6 w16 ∧
 (CALL PG 59 [(.slice x116 x116N x116C), (.slice x118 x118N x118C)] w16 fun v14 w17 =>
 ∃ x119 : Bool, v14 = (.bool x119) ∧
 (∃ S7 : World → Prop, S7 w17 ∧
 (IFB (!x119)
 (Q (.bool false) w17)
 (NILC x17 fun a124 =>
 RDSP PG (loadVar 27 (Addr.add a124 0)) S7 fun x126 =>
 RDSI PG (loadVar 3 (Addr.add (Addr.add a8 3) 2)) .i64 S7 fun x130 =>
 CALL PG 60 [(.pointer x126)] w17 fun v15 w18 =>
 ∃ x127 : Int, v15 = (.int .i64 x127) ∧
 (∃ S8 : World → Prop, (∀ x, S8 x → S7 x) ∧ S8 w18 ∧
 (IFB (x127 != x130)
 (Q (.bool false) w18)
 (RDS PG (loadVar 113 a8) S8 fun v16 =>
 ∃ x136 : Int, ∃ x136v1 : Int, ∃ (x136v2 : Option Addr) (x136N x136C : Nat), ∃ x136v3 : Int, ∃ x136v4 : Int, ∃ x136v5 : Int, v16 = (.agg #[(.int .i64 x136), (.int .i64 x136v1), (.slice x136v2 x136N x136C), (.int .i64 x136v3), (.int .i64 x136v4), (.int .i64 x136v5)]) ∧
 (CALL PG 43 [(.pointer x17)] w18 fun v17 w19 =>
 ∃ (x135 : Option Addr) (x135N x135C : Nat), v17 = (.slice x135 x135N x135C) ∧
 (∃ S9 : World → Prop, (∀ x, S9 x → S8 x) ∧ S9 w19 ∧
 (CALL PG 62 [(.agg #[(.int .i64 x136), (.int .i64 x136v1), (.slice x136v2 x136N x136C), (.int .i64 x136v3), (.int .i64 x136v4), (.int .i64 x136v5)])] w19 fun v18 w20 =>
 ∃ (x137 : Option Addr) (x137N x137C : Nat), v18 = (.slice x137 x137N x137C) ∧
 (CALL PG 61 [(.slice x135 x135N x135C), (.slice x137 x137N x137C)] w20 fun v19 w21 =>
 ∃ x138 : Bool, v19 = (.bool x138) ∧
 (IFB (!x138)
 (Q (.bool false) w21)
 (LETI (IntKind.i64.wrap (i + (1 : Int))) fun i1 =>
 ∃ m2, m2 < m1 ∧ I m2 i1 w21)))))))))))))))))))
 (CALL PG 17 [] w5 fun v20 w22 =>
 ∃ x141 : Bool, v20 = (.bool x141) ∧
 (LETB x141 fun x6 =>
 Q (.bool x6) w22)))))))))
theorem eq11 : ∀ (most : Int) (paths : Int) (l : Option Addr) (lN lC : Nat) (w : World) (Q : Value → World → Prop), vcF PG TB Try.f11 (.s .nil (.s .nil (.s .nil (.s .nil (.s .nil (.s (.s .nil (.u (.loop [(9, 3)] (.s .nil (.s (.u (.s .nil (.cut [(10, 4), (11, 4)] .nil .nil))) .nil))))) .nil)))))) [(.int .i64 most), (.int .i64 paths), (.slice l lN lC)] w Q = N11 most paths l lN lC w Q := by intros; kernel_rfl
theorem call11 {most : Int} {paths : Int} {l : Option Addr} {lN lC : Nat} {w : World} {Q : Value → World → Prop} (hN : N11 most paths l lN lC w Q) : CALL PG 11 [(.int .i64 most), (.int .i64 paths), (.slice l lN lC)] w Q := calls_vc tabOk Try.func11 (by rw [eq11]; exact hN)

end Go.Br
