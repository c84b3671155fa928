/- What the code of some functions says, as the core reads it; each reading is checked by the kernel. -/
import Derived.Test.YtccmlfekmmeloaaBrSeat
set_option linter.unusedVariables false
set_option maxRecDepth 100000
namespace Go.Br
open Go Go.Proofs

/-- brougham/broughamlaw29.WheelPlays -/
def N10 (most : Int) (l : Option Addr) (lN lC : Nat) (w : World) (Q : Value → World → Prop) : Prop :=
 IFB (decide ((lN : Int) > (60 : Int)))
 (Q (.bool true) w)
 (CALL PG 38 [(.int .i64 most)] w fun v w1 =>
 ∃ x24 : Option Addr, v = (.pointer x24) ∧
 (IFB (x24.isNone)
 (Q (.bool false) w1)
 (CALL PG 45 [(.int .i64 most)] w1 fun v1 w2 =>
 ∃ x28 : Int, ∃ x28v1 : Int, ∃ (x28v2 : Option Addr) (x28N x28C : Nat), v1 = (.agg #[(.int .i64 x28), (.int .i64 x28v1), (.slice x28v2 x28N x28C)]) ∧
 (RUNA PG (Instr.alloc 97 true (.tuple #[])) w2 fun a6 w3 =>
 RUNU PG (storeVar 97 a6 (.agg #[(.int .i64 x28), (.int .i64 x28v1), (.slice x28v2 x28N x28C)])) w3 fun w4 =>
 ∃ I : Nat → Int → World → Prop,
 (∃ m, I m (0 : Int) w4) ∧
 (∀ m1 (i : Int) (w5 : World), I m1 i w5 → (IFB (decide (i < (lN : Int)))
 (IDX l lN i fun a37 =>
 RD PG (loadVar 87 (Addr.add a37 (Int.toNat i * 3))) w5 fun v2 =>
 ∃ x38 : Int, ∃ x38v1 : Int, ∃ x38v2 : Int, v2 = (.agg #[(.int .i64 x38), (.int .i64 x38v1), (.int .i64 x38v2)]) ∧
 (RUNA PG (Instr.alloc 87 true (.tuple #[])) w5 fun a8 w6 =>
 RUNU PG (storeVar 87 a8 (.agg #[(.int .i64 x38), (.int .i64 x38v1), (.int .i64 x38v2)])) w6 fun w7 =>
 ∃ R : World → Prop,
 (RDI PG (loadVar 3 (Addr.add a8 0)) .i64 w7 fun x40 =>
 NEED ((6 : Int) ≠ 0)
 (NEED ((6 : Int) ≠ 0)
 (LETB ((Int.tmod (IntKind.i64.wrap ((Int.tmod x40 (6 : Int)) + (6 : Int))) (6 : Int)) == (3 : Int)) fun x61 =>
 IFB x61
 (RD PG (loadVar 97 a6) w7 fun v3 =>
 ∃ x64 : Int, ∃ x64v1 : Int, ∃ (x64v2 : Option Addr) (x64N x64C : Nat), v3 = (.agg #[(.int .i64 x64), (.int .i64 x64v1), (.slice x64v2 x64N x64C)]) ∧
 (RDI PG (loadVar 3 (Addr.add a8 1)) .i64 w7 fun x66 =>
 CALL PG 46 [(.agg #[(.int .i64 x64), (.int .i64 x64v1), (.slice x64v2 x64N x64C)]), (.int .i64 x66)] w7 fun v4 w8 =>
 ∃ x67 : Int, ∃ x67v1 : Int, ∃ (x67v2 : Option Addr) (x67N x67C : Nat), ∃ x67v3 : Bool, v4 = (.tuple #[(.agg #[(.int .i64 x67), (.int .i64 x67v1), (.slice x67v2 x67N x67C)]), (.bool x67v3)]) ∧
 (RUNU PG (storeVar 97 a6 (.agg #[(.int .i64 x67), (.int .i64 x67v1), (.slice x67v2 x67N x67C)])) w8 fun w9 =>
 LETB x67v3 fun okv =>
 RDI PG (loadVar 3 (Addr.add a8 1)) .i64 w9 fun x72 =>
 CALL PG 47 [(.pointer x24), (.int .i64 x72)] w9 fun v5 w10 =>
 ∃ x73 : Bool, v5 = (.bool x73) ∧
 (IFB (!(x73 == okv))
 (Q (.bool false) w10)
 (R w10)))))
 (∃ R1 : Bool → World → Prop,
 (LETB ((Int.tmod (IntKind.i64.wrap ((Int.tmod x40 (6 : Int)) + (6 : Int))) (6 : Int)) == (4 : Int)) fun x76 =>
 IFB x76
 (R1 true w7)
 (LETB ((Int.tmod (IntKind.i64.wrap ((Int.tmod x40 (6 : Int)) + (6 : Int))) (6 : Int)) == (5 : Int)) fun x76v1 =>
 R1 x76v1 w7)) ∧
 (∀ (x76v2 : Bool) (w11 : World), R1 x76v2 w11 → (IFB x76v2
 (∃ I1 : Nat → Int → World → Prop,
 (∃ m2, I1 m2 (0 : Int) w11) ∧
 (∀ m3 (k : Int) (w12 : World), I1 m3 k w12 → (IFB (decide (k < (300 : Int)))
 (RDI PG (loadVar 3 (Addr.add a8 2)) .i64 w12 fun x84 =>
 IFB (decide (k < x84))
 (RD PG (loadVar 97 a6) w12 fun v6 =>
 ∃ x90 : Int, ∃ x90v1 : Int, ∃ (x90v2 : Option Addr) (x90N x90C : Nat), v6 = (.agg #[(.int .i64 x90), (.int .i64 x90v1), (.slice x90v2 x90N x90C)]) ∧
 (CALL PG 48 [(.agg #[(.int .i64 x90), (.int .i64 x90v1), (.slice x90v2 x90N x90C)])] w12 fun v7 w13 =>
 ∃ x91 : Int, ∃ x91v1 : Int, ∃ (x91v2 : Option Addr) (x91N x91C : Nat), ∃ (x91v3 : Option Addr) (x91N1 x91C1 : Nat), v7 = (.tuple #[(.agg #[(.int .i64 x91), (.int .i64 x91v1), (.slice x91v2 x91N x91C)]), (.slice x91v3 x91N1 x91C1)]) ∧
 (RUNU PG (storeVar 97 a6 (.agg #[(.int .i64 x91), (.int .i64 x91v1), (.slice x91v2 x91N x91C)])) w13 fun w14 =>
 CALL PG 40 [(.pointer x24)] w14 fun v8 w15 =>
 ∃ (x95 : Option Addr) (x95N x95C : Nat), v8 = (.slice x95 x95N x95C) ∧
 (CALL PG 49 [(.slice x95 x95N x95C), (.slice x91v3 x91N1 x91C1)] w15 fun v9 w16 =>
 ∃ x97 : Bool, v9 = (.bool x97) ∧
 (IFB (!x97)
 (Q (.bool false) w16)
 (LETI (IntKind.i64.wrap (k + (1 : Int))) fun k1 =>
 ∃ m4, m4 < m3 ∧ I1 m4 k1 w16))))))
 (R w12))
 (R w12))))
 (RD PG (loadVar 97 a6) w11 fun v10 =>
 ∃ x45 : Int, ∃ x45v1 : Int, ∃ (x45v2 : Option Addr) (x45N x45C : Nat), v10 = (.agg #[(.int .i64 x45), (.int .i64 x45v1), (.slice x45v2 x45N x45C)]) ∧
 (RDI PG (loadVar 3 (Addr.add a8 1)) .i64 w11 fun x47 =>
 RDI PG (loadVar 3 (Addr.add a8 2)) .i64 w11 fun x49 =>
 CALL PG 50 [(.agg #[(.int .i64 x45), (.int .i64 x45v1), (.slice x45v2 x45N x45C)]), (.int .i64 x47), (.int .i64 x49)] w11 fun v11 w17 =>
 ∃ x50 : Int, ∃ x50v1 : Int, ∃ (x50v2 : Option Addr) (x50N x50C : Nat), ∃ x50v3 : Bool, v11 = (.tuple #[(.agg #[(.int .i64 x50), (.int .i64 x50v1), (.slice x50v2 x50N x50C)]), (.bool x50v3)]) ∧
 (RUNU PG (storeVar 97 a6 (.agg #[(.int .i64 x50), (.int .i64 x50v1), (.slice x50v2 x50N x50C)])) w17 fun w18 =>
 LETB x50v3 fun okv1 =>
 RDI PG (loadVar 3 (Addr.add a8 1)) .i64 w18 fun x55 =>
 RDI PG (loadVar 3 (Addr.add a8 2)) .i64 w18 fun x57 =>
 CALL PG 39 [(.pointer x24), (.int .i64 x55), (.int .i64 x57)] w18 fun v12 w19 =>
 ∃ x58 : Bool, v12 = (.bool x58) ∧
 (IFB (!(x58 == okv1))
 (Q (.bool false) w19)
 (R w19))))))))))) ∧
 (∀  (w20 : World), R w20 → (RDI PG (loadVar 3 (Addr.add a8 1)) .i64 w20 fun x102 =>
 CALL PG 51 [(.pointer x24), (.int .i64 x102)] w20 fun v13 w21 =>
 ∃ x103 : Int, ∃ x103v1 : Bool, v13 = (.tuple #[(.int .i64 x103), (.bool x103v1)]) ∧
 (LETI x103 fun a =>
 LETB x103v1 fun isv =>
 RD PG (loadVar 97 a6) w21 fun v14 =>
 ∃ x107 : Int, ∃ x107v1 : Int, ∃ (x107v2 : Option Addr) (x107N x107C : Nat), v14 = (.agg #[(.int .i64 x107), (.int .i64 x107v1), (.slice x107v2 x107N x107C)]) ∧
 (RDI PG (loadVar 3 (Addr.add a8 1)) .i64 w21 fun x109 =>
 CALL PG 52 [(.agg #[(.int .i64 x107), (.int .i64 x107v1), (.slice x107v2 x107N x107C)]), (.int .i64 x109)] w21 fun v15 w22 =>
 ∃ x110 : Int, ∃ x110v1 : Bool, v15 = (.tuple #[(.int .i64 x110), (.bool x110v1)]) ∧
 (LETI x110 fun b =>
 LETB x110v1 fun so =>
 CALL PG 44 [(.pointer x24)] w22 fun v16 w23 =>
 ∃ x115 : Int, ∃ x115v1 : Bool, v16 = (.tuple #[(.int .i64 x115), (.bool x115v1)]) ∧
 (LETI x115 fun c =>
 LETB x115v1 fun any =>
 RD PG (loadVar 97 a6) w23 fun v17 =>
 ∃ x119 : Int, ∃ x119v1 : Int, ∃ (x119v2 : Option Addr) (x119N x119C : Nat), v17 = (.agg #[(.int .i64 x119), (.int .i64 x119v1), (.slice x119v2 x119N x119C)]) ∧
 (CALL PG 53 [(.agg #[(.int .i64 x119), (.int .i64 x119v1), (.slice x119v2 x119N x119C)])] w23 fun v18 w24 =>
 ∃ x120 : Int, ∃ x120v1 : Bool, v18 = (.tuple #[(.int .i64 x120), (.bool x120v1)]) ∧
 (LETI x120 fun d =>
 LETB x120v1 fun somev =>
 ∃ S : World → Prop, S (w24.drew) ∧
 (IFB (a != b)
 (Q (.bool false) (w24.drew))
 (IFB (!(isv == so))
 (Q (.bool false) (w24.drew))
 (IFB (c != d)
 (Q (.bool false) (w24.drew))
 (IFB (!(any == somev))
 (Q (.bool false) (w24.drew))
 (RDSI PG (loadVar 3 (Addr.add a6 0)) .i64 S fun x145 =>
 CALL PG 54 [(.pointer x24)] (w24.drew) fun v19 w25 =>
 ∃ x143 : Int, v19 = (.int .i64 x143) ∧
 (∃ S1 : World → Prop, (∀ x, S1 x → S x) ∧ S1 w25 ∧
 (IFB (x143 != x145)
 (Q (.bool false) w25)
 (RDSL PG (loadVar 95 (Addr.add a6 2)) S1 fun x152 x152N x152C =>
 CALL PG 41 [(.pointer x24)] w25 fun v20 w26 =>
 ∃ x150 : Int, v20 = (.int .i64 x150) ∧
 (∃ S2 : World → Prop, (∀ x, S2 x → S1 x) ∧ S2 w26 ∧
 (IFB (x150 != (x152N : Int))
 (Q (.bool false) w26)
 (LETI (IntKind.i64.wrap (i + (1 : Int))) fun i1 =>
 ∃ m5, m5 < m1 ∧ I m5 i1 w26)))))))))))))))))))))
 (CALL PG 42 [] w5 fun v21 w27 =>
 ∃ x156 : Bool, v21 = (.bool x156) ∧
 (LETB x156 fun x4 =>
 Q (.bool x4) w27))))))))
theorem eq10 : ∀ (most : Int) (l : Option Addr) (lN lC : Nat) (w : World) (Q : Value → World → Prop), vcF PG TB Try.f10 (.s .nil (.s .nil (.s .nil (.s .nil (.s .nil (.s (.s .nil (.u (.loop [(7, 3)] (.s .nil (.s (.u (.s .nil (.s .nil (.s .nil (.cut [] (.s .nil (.u (.s .nil (.c .nil (.cut [(76, 4)] .nil (.c (.s .nil (.u (.loop [(11, 3)] .nil))) .nil)))))) .nil))))) .nil))))) .nil)))))) [(.int .i64 most), (.slice l lN lC)] w Q = N10 most l lN lC w Q := by intros; kernel_rfl
theorem call10 {most : Int} {l : Option Addr} {lN lC : Nat} {w : World} {Q : Value → World → Prop} (hN : N10 most l lN lC w Q) : CALL PG 10 [(.int .i64 most), (.slice l lN lC)] w Q := calls_vc tabOk Try.func10 (by rw [eq10]; exact hN)

end Go.Br
