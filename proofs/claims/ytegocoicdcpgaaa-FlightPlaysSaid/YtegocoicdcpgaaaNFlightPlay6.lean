/- What the code of some functions says, as the core reads it; each reading is checked by the kernel. -/
import Derived.Test.YtegocoicdcpgaaaBrSeat
set_option linter.unusedVariables false
set_option maxRecDepth 100000
namespace Go.Br
open Go Go.Proofs

/-- brougham/broughamlaw16.FlightPlays -/
def N14 (many : Int) (l : Option Addr) (lN lC : Nat) (w : World) (Q : Value → World → Prop) : Prop :=
 IFB (decide ((lN : Int) > (100 : Int)))
 (Q (.bool true) w)
 (CALL PG 30 [(.int .i64 many)] w fun v w1 =>
 ∃ x19 : Option Addr, v = (.pointer x19) ∧
 (IFB (x19.isNone)
 (Q (.bool false) w1)
 (∃ I : Nat → Option Addr → Nat → Nat → Int → World → Prop,
 (∃ m, I m none 0 0 (0 : Int) w1) ∧
 (∀ m1 (r : Option Addr) (rN rC : Nat) (i : Int) (w2 : World), I m1 r rN rC i w2 → (IFB (decide (i < (lN : Int)))
 (IDX l lN i fun a30 =>
 RD PG (loadVar 125 (Addr.add a30 (Int.toNat i * 11))) w2 fun v1 =>
 ∃ x31 : Int, ∃ x31v1 : Int, ∃ x31v2 : Int, ∃ x31v3 : Bool, ∃ x31v4 : Int, ∃ x31v5 : Int, ∃ x31v6 : Int, ∃ x31v7 : Int, ∃ x31v8 : Bool, ∃ x31v9 : Bool, ∃ x31v10 : Int, v1 = (.agg #[(.int .i64 x31), (.int .u64 x31v1), (.int .i64 x31v2), (.bool x31v3), (.int .i64 x31v4), (.int .u32 x31v5), (.int .i64 x31v6), (.int .i64 x31v7), (.bool x31v8), (.bool x31v9), (.int .i64 x31v10)]) ∧
 (CALL PG 73 [(.agg #[(.int .i64 x31), (.int .u64 x31v1), (.int .i64 x31v2), (.bool x31v3), (.int .i64 x31v4), (.int .u32 x31v5), (.int .i64 x31v6), (.int .i64 x31v7), (.bool x31v8), (.bool x31v9), (.int .i64 x31v10)])] w2 fun v2 w3 =>
 ∃ x32 : Bool, v2 = (.bool x32) ∧
 (IFB (!x32)
 (Q (.bool true) w3)
 (∃ S : World → Prop, S (w3.drew) ∧
 (IDX l lN i fun a39 =>
 RDS PG (loadVar 125 (Addr.add a39 (Int.toNat i * 11))) S fun v3 =>
 ∃ x40 : Int, ∃ x40v1 : Int, ∃ x40v2 : Int, ∃ x40v3 : Bool, ∃ x40v4 : Int, ∃ x40v5 : Int, ∃ x40v6 : Int, ∃ x40v7 : Int, ∃ x40v8 : Bool, ∃ x40v9 : Bool, ∃ x40v10 : Int, v3 = (.agg #[(.int .i64 x40), (.int .u64 x40v1), (.int .i64 x40v2), (.bool x40v3), (.int .i64 x40v4), (.int .u32 x40v5), (.int .i64 x40v6), (.int .i64 x40v7), (.bool x40v8), (.bool x40v9), (.int .i64 x40v10)]) ∧
 (CALL PG 75 [(.int .i64 many)] (w3.drew) fun v4 w4 =>
 ∃ x42 : Int, v4 = (.int .i64 x42) ∧
 (∃ S1 : World → Prop, (∀ x, S1 x → S x) ∧ S1 w4 ∧
 (CALL PG 74 [(.pointer x19), (.slice r rN rC), (.agg #[(.int .i64 x40), (.int .u64 x40v1), (.int .i64 x40v2), (.bool x40v3), (.int .i64 x40v4), (.int .u32 x40v5), (.int .i64 x40v6), (.int .i64 x40v7), (.bool x40v8), (.bool x40v9), (.int .i64 x40v10)]), (.int .i64 x42)] w4 fun v5 w5 =>
 ∃ (x43 : Option Addr) (x43N x43C : Nat), ∃ x43v1 : Bool, v5 = (.tuple #[(.slice x43 x43N x43C), (.bool x43v1)]) ∧
 (LETB x43v1 fun okv =>
 CALL PG 76 [(.pointer x19)] w5 fun v6 w6 =>
 ∃ x48 : Int, ∃ x48v1 : Int, ∃ x48v2 : Bool, ∃ x48v3 : Int, ∃ x48v4 : Int, ∃ x48v5 : Int, ∃ x48v6 : Int, ∃ x48v7 : Bool, ∃ x48v8 : Bool, ∃ x48v9 : Bool, v6 = (.tuple #[(.agg #[(.int .u64 x48), (.int .i64 x48v1), (.bool x48v2), (.int .i64 x48v3), (.int .u32 x48v4), (.int .i64 x48v5), (.int .i64 x48v6), (.bool x48v7), (.bool x48v8)]), (.bool x48v9)]) ∧
 (RUNA PG (Instr.alloc 46 true (.tuple #[])) w6 fun a9 w7 =>
 RUNU PG (storeVar 46 a9 (.agg #[(.int .u64 x48), (.int .i64 x48v1), (.bool x48v2), (.int .i64 x48v3), (.int .u32 x48v4), (.int .i64 x48v5), (.int .i64 x48v6), (.bool x48v7), (.bool x48v8)])) w7 fun w8 =>
 LETB x48v9 fun isv =>
 CALL PG 77 [(.slice x43 x43N x43C)] w8 fun v7 w9 =>
 ∃ x53 : Int, ∃ x53v1 : Int, ∃ x53v2 : Bool, ∃ x53v3 : Int, ∃ x53v4 : Int, ∃ x53v5 : Int, ∃ x53v6 : Int, ∃ x53v7 : Bool, ∃ x53v8 : Bool, ∃ x53v9 : Bool, v7 = (.tuple #[(.agg #[(.int .u64 x53), (.int .i64 x53v1), (.bool x53v2), (.int .i64 x53v3), (.int .u32 x53v4), (.int .i64 x53v5), (.int .i64 x53v6), (.bool x53v7), (.bool x53v8)]), (.bool x53v9)]) ∧
 (RUNA PG (Instr.alloc 130 true (.tuple #[])) w9 fun a11 w10 =>
 RUNU PG (storeVar 130 a11 (.agg #[(.int .u64 x53), (.int .i64 x53v1), (.bool x53v2), (.int .i64 x53v3), (.int .u32 x53v4), (.int .i64 x53v5), (.int .i64 x53v6), (.bool x53v7), (.bool x53v8)])) w10 fun w11 =>
 LETB x53v9 fun so =>
 IFB (!okv)
 (∃ S2 : World → Prop, S2 (w11.drew) ∧
 (Q (.bool false) (w11.drew)))
 (CALL PG 35 [(.pointer x19)] (w11.drew) fun v8 w12 =>
 ∃ (x60 : Option Addr) (x60N x60C : Nat), v8 = (.slice x60 x60N x60C) ∧
 (CALL PG 79 [(.slice x60 x60N x60C)] w12 fun v9 w13 =>
 ∃ (x61 : Option Addr) (x61N x61C : Nat), v9 = (.slice x61 x61N x61C) ∧
 (CALL PG 78 [(.slice x61 x61N x61C), (.slice x43 x43N x43C)] w13 fun v10 w14 =>
 ∃ x63 : Bool, v10 = (.bool x63) ∧
 (∃ S3 : World → Prop, S3 w14 ∧
 (IFB (!x63)
 (Q (.bool false) w14)
 (CALL PG 80 [(.pointer x19)] w14 fun v11 w15 =>
 ∃ x68 : Int, v11 = (.int .i64 x68) ∧
 (∃ S4 : World → Prop, (∀ x, S4 x → S3 x) ∧ S4 w15 ∧
 (IFB (x68 != (x43N : Int))
 (Q (.bool false) w15)
 (CALL PG 81 [(.pointer x19)] w15 fun v12 w16 =>
 ∃ x75 : Int, v12 = (.int .i64 x75) ∧
 (∃ S5 : World → Prop, (∀ x, S5 x → S4 x) ∧ S5 w16 ∧
 (CALL PG 75 [(.int .i64 many)] w16 fun v13 w17 =>
 ∃ x77 : Int, v13 = (.int .i64 x77) ∧
 (∃ S6 : World → Prop, (∀ x, S6 x → S5 x) ∧ S6 w17 ∧
 (IFB (x75 != (IntKind.i64.wrap (x77 - (x43N : Int))))
 (Q (.bool false) w17)
 (IFB (!(isv == so))
 (Q (.bool false) w17)
 (RDS PG (loadVar 46 a9) S6 fun v14 =>
 ∃ x89 : Int, ∃ x89v1 : Int, ∃ x89v2 : Bool, ∃ x89v3 : Int, ∃ x89v4 : Int, ∃ x89v5 : Int, ∃ x89v6 : Int, ∃ x89v7 : Bool, ∃ x89v8 : Bool, v14 = (.agg #[(.int .u64 x89), (.int .i64 x89v1), (.bool x89v2), (.int .i64 x89v3), (.int .u32 x89v4), (.int .i64 x89v5), (.int .i64 x89v6), (.bool x89v7), (.bool x89v8)]) ∧
 (RDS PG (loadVar 130 a11) S6 fun v15 =>
 ∃ x91 : Int, ∃ x91v1 : Int, ∃ x91v2 : Bool, ∃ x91v3 : Int, ∃ x91v4 : Int, ∃ x91v5 : Int, ∃ x91v6 : Int, ∃ x91v7 : Bool, ∃ x91v8 : Bool, v15 = (.agg #[(.int .u64 x91), (.int .i64 x91v1), (.bool x91v2), (.int .i64 x91v3), (.int .u32 x91v4), (.int .i64 x91v5), (.int .i64 x91v6), (.bool x91v7), (.bool x91v8)]) ∧
 (CALL PG 82 [(.agg #[(.int .u64 x89), (.int .i64 x89v1), (.bool x89v2), (.int .i64 x89v3), (.int .u32 x89v4), (.int .i64 x89v5), (.int .i64 x89v6), (.bool x89v7), (.bool x89v8)])] w17 fun v16 w18 =>
 ∃ x90 : Int, ∃ x90v1 : Int, ∃ x90v2 : Bool, ∃ x90v3 : Int, ∃ x90v4 : Int, ∃ x90v5 : Int, ∃ x90v6 : Int, ∃ x90v7 : Bool, ∃ x90v8 : Bool, v16 = (.agg #[(.int .u64 x90), (.int .i64 x90v1), (.bool x90v2), (.int .i64 x90v3), (.int .u32 x90v4), (.int .i64 x90v5), (.int .i64 x90v6), (.bool x90v7), (.bool x90v8)]) ∧
 (∃ S7 : World → Prop, (∀ x, S7 x → S6 x) ∧ S7 w18 ∧
 (RDSB PG (do eqGuard .neq 130 (.tmp 90) (.tmp 91) (.agg #[(.int .u64 x90), (.int .i64 x90v1), (.bool x90v2), (.int .i64 x90v3), (.int .u32 x90v4), (.int .i64 x90v5), (.int .i64 x90v6), (.bool x90v7), (.bool x90v8)]) (.agg #[(.int .u64 x91), (.int .i64 x91v1), (.bool x91v2), (.int .i64 x91v3), (.int .u32 x91v4), (.int .i64 x91v5), (.int .i64 x91v6), (.bool x91v7), (.bool x91v8)]); binOp .neq 130 (.agg #[(.int .u64 x90), (.int .i64 x90v1), (.bool x90v2), (.int .i64 x90v3), (.int .u32 x90v4), (.int .i64 x90v5), (.int .i64 x90v6), (.bool x90v7), (.bool x90v8)]) (.agg #[(.int .u64 x91), (.int .i64 x91v1), (.bool x91v2), (.int .i64 x91v3), (.int .u32 x91v4), (.int .i64 x91v5), (.int .i64 x91v6), (.bool x91v7), (.bool x91v8)])) S7 fun x92 =>
 IFB x92
 (Q (.bool false) w18)
 (CALL PG 83 [(.pointer x19)] w18 fun v17 w19 =>
 ∃ x96 : Int, ∃ x96v1 : Int, ∃ x96v2 : Bool, ∃ x96v3 : Int, ∃ x96v4 : Int, ∃ x96v5 : Int, ∃ x96v6 : Int, ∃ x96v7 : Bool, ∃ x96v8 : Bool, ∃ x96v9 : Bool, v17 = (.tuple #[(.agg #[(.int .u64 x96), (.int .i64 x96v1), (.bool x96v2), (.int .i64 x96v3), (.int .u32 x96v4), (.int .i64 x96v5), (.int .i64 x96v6), (.bool x96v7), (.bool x96v8)]), (.bool x96v9)]) ∧
 (RUNA PG (Instr.alloc 46 true (.tuple #[])) w19 fun a13 w20 =>
 RUNU PG (storeVar 46 a13 (.agg #[(.int .u64 x96), (.int .i64 x96v1), (.bool x96v2), (.int .i64 x96v3), (.int .u32 x96v4), (.int .i64 x96v5), (.int .i64 x96v6), (.bool x96v7), (.bool x96v8)])) w20 fun w21 =>
 LETB x96v9 fun there =>
 ∃ S8 : World → Prop, S8 (w21.drew) ∧
 (IFB (!(there == (decide ((x43N : Int) > (0 : Int)))))
 (Q (.bool false) (w21.drew))
 (IFB there
 (RDS PG (loadVar 46 a13) S8 fun v18 =>
 ∃ x107 : Int, ∃ x107v1 : Int, ∃ x107v2 : Bool, ∃ x107v3 : Int, ∃ x107v4 : Int, ∃ x107v5 : Int, ∃ x107v6 : Int, ∃ x107v7 : Bool, ∃ x107v8 : Bool, v18 = (.agg #[(.int .u64 x107), (.int .i64 x107v1), (.bool x107v2), (.int .i64 x107v3), (.int .u32 x107v4), (.int .i64 x107v5), (.int .i64 x107v6), (.bool x107v7), (.bool x107v8)]) ∧
 (IDX x43 x43N (0 : Int) fun a110 =>
 RDS PG (loadVar 130 (Addr.add a110 (Int.toNat (0 : Int) * 9))) S8 fun v19 =>
 ∃ x111 : Int, ∃ x111v1 : Int, ∃ x111v2 : Bool, ∃ x111v3 : Int, ∃ x111v4 : Int, ∃ x111v5 : Int, ∃ x111v6 : Int, ∃ x111v7 : Bool, ∃ x111v8 : Bool, v19 = (.agg #[(.int .u64 x111), (.int .i64 x111v1), (.bool x111v2), (.int .i64 x111v3), (.int .u32 x111v4), (.int .i64 x111v5), (.int .i64 x111v6), (.bool x111v7), (.bool x111v8)]) ∧
 (CALL PG 82 [(.agg #[(.int .u64 x107), (.int .i64 x107v1), (.bool x107v2), (.int .i64 x107v3), (.int .u32 x107v4), (.int .i64 x107v5), (.int .i64 x107v6), (.bool x107v7), (.bool x107v8)])] (w21.drew) fun v20 w22 =>
 ∃ x108 : Int, ∃ x108v1 : Int, ∃ x108v2 : Bool, ∃ x108v3 : Int, ∃ x108v4 : Int, ∃ x108v5 : Int, ∃ x108v6 : Int, ∃ x108v7 : Bool, ∃ x108v8 : Bool, v20 = (.agg #[(.int .u64 x108), (.int .i64 x108v1), (.bool x108v2), (.int .i64 x108v3), (.int .u32 x108v4), (.int .i64 x108v5), (.int .i64 x108v6), (.bool x108v7), (.bool x108v8)]) ∧
 (∃ S9 : World → Prop, (∀ x, S9 x → S8 x) ∧ S9 w22 ∧
 (RDSB PG (do eqGuard .neq 130 (.tmp 108) (.tmp 111) (.agg #[(.int .u64 x108), (.int .i64 x108v1), (.bool x108v2), (.int .i64 x108v3), (.int .u32 x108v4), (.int .i64 x108v5), (.int .i64 x108v6), (.bool x108v7), (.bool x108v8)]) (.agg #[(.int .u64 x111), (.int .i64 x111v1), (.bool x111v2), (.int .i64 x111v3), (.int .u32 x111v4), (.int .i64 x111v5), (.int .i64 x111v6), (.bool x111v7), (.bool x111v8)]); binOp .neq 130 (.agg #[(.int .u64 x108), (.int .i64 x108v1), (.bool x108v2), (.int .i64 x108v3), (.int .u32 x108v4), (.int .i64 x108v5), (.int .i64 x108v6), (.bool x108v7), (.bool x108v8)]) (.agg #[(.int .u64 x111), (.int .i64 x111v1), (.bool x111v2), (.int .i64 x111v3), (.int .u32 x111v4), (.int .i64 x111v5), (.int .i64 x111v6), (.bool x111v7), (.bool x111v8)])) S9 fun x112 =>
 IFB x112
 (Q (.bool false) w22)
 (RDS PG (loadVar 46 a13) S9 fun v21 =>
 ∃ x116 : Int, ∃ x116v1 : Int, ∃ x116v2 : Bool, ∃ x116v3 : Int, ∃ x116v4 : Int, ∃ x116v5 : Int, ∃ x116v6 : Int, ∃ x116v7 : Bool, ∃ x116v8 : Bool, v21 = (.agg #[(.int .u64 x116), (.int .i64 x116v1), (.bool x116v2), (.int .i64 x116v3), (.int .u32 x116v4), (.int .i64 x116v5), (.int .i64 x116v6), (.bool x116v7), (.bool x116v8)]) ∧
 (RDS PG (loadVar 46 a13) S9 fun v22 =>
 ∃ x118 : Int, ∃ x118v1 : Int, ∃ x118v2 : Bool, ∃ x118v3 : Int, ∃ x118v4 : Int, ∃ x118v5 : Int, ∃ x118v6 : Int, ∃ x118v7 : Bool, ∃ x118v8 : Bool, v22 = (.agg #[(.int .u64 x118), (.int .i64 x118v1), (.bool x118v2), (.int .i64 x118v3), (.int .u32 x118v4), (.int .i64 x118v5), (.int .i64 x118v6), (.bool x118v7), (.bool x118v8)]) ∧
 (CALL PG 34 [(.agg #[(.int .u64 x116), (.int .i64 x116v1), (.bool x116v2), (.int .i64 x116v3), (.int .u32 x116v4), (.int .i64 x116v5), (.int .i64 x116v6), (.bool x116v7), (.bool x116v8)])] w22 fun v23 w23 =>
 ∃ x117 : Int, v23 = (.int .u64 x117) ∧
 (∃ S10 : World → Prop, (∀ x, S10 x → S9 x) ∧ S10 w23 ∧
 (CALL PG 82 [(.agg #[(.int .u64 x118), (.int .i64 x118v1), (.bool x118v2), (.int .i64 x118v3), (.int .u32 x118v4), (.int .i64 x118v5), (.int .i64 x118v6), (.bool x118v7), (.bool x118v8)])] w23 fun v24 w24 =>
 ∃ x119 : Int, ∃ x119v1 : Int, ∃ x119v2 : Bool, ∃ x119v3 : Int, ∃ x119v4 : Int, ∃ x119v5 : Int, ∃ x119v6 : Int, ∃ x119v7 : Bool, ∃ x119v8 : Bool, v24 = (.agg #[(.int .u64 x119), (.int .i64 x119v1), (.bool x119v2), (.int .i64 x119v3), (.int .u32 x119v4), (.int .i64 x119v5), (.int .i64 x119v6), (.bool x119v7), (.bool x119v8)]) ∧
 (CALL PG 84 [(.agg #[(.int .u64 x119), (.int .i64 x119v1), (.bool x119v2), (.int .i64 x119v3), (.int .u32 x119v4), (.int .i64 x119v5), (.int .i64 x119v6), (.bool x119v7), (.bool x119v8)])] w24 fun v25 w25 =>
 ∃ x120 : Int, v25 = (.int .u64 x120) ∧
 (IFB (x117 != x120)
 (Q (.bool false) w25)
 (LETI (IntKind.i64.wrap (i + (1 : Int))) fun i1 =>
 ∃ m2, m2 < m1 ∧ I m2 x43 x43N x43C i1 w25)))))))))))))
 (RDS PG (loadVar 46 a13) S8 fun v26 =>
 ∃ x116v9 : Int, ∃ x116v10 : Int, ∃ x116v11 : Bool, ∃ x116v12 : Int, ∃ x116v13 : Int, ∃ x116v14 : Int, ∃ x116v15 : Int, ∃ x116v16 : Bool, ∃ x116v17 : Bool, v26 = (.agg #[(.int .u64 x116v9), (.int .i64 x116v10), (.bool x116v11), (.int .i64 x116v12), (.int .u32 x116v13), (.int .i64 x116v14), (.int .i64 x116v15), (.bool x116v16), (.bool x116v17)]) ∧
 (RDS PG (loadVar 46 a13) S8 fun v27 =>
 ∃ x118v9 : Int, ∃ x118v10 : Int, ∃ x118v11 : Bool, ∃ x118v12 : Int, ∃ x118v13 : Int, ∃ x118v14 : Int, ∃ x118v15 : Int, ∃ x118v16 : Bool, ∃ x118v17 : Bool, v27 = (.agg #[(.int .u64 x118v9), (.int .i64 x118v10), (.bool x118v11), (.int .i64 x118v12), (.int .u32 x118v13), (.int .i64 x118v14), (.int .i64 x118v15), (.bool x118v16), (.bool x118v17)]) ∧
 (CALL PG 34 [(.agg #[(.int .u64 x116v9), (.int .i64 x116v10), (.bool x116v11), (.int .i64 x116v12), (.int .u32 x116v13), (.int .i64 x116v14), (.int .i64 x116v15), (.bool x116v16), (.bool x116v17)])] (w21.drew) fun v28 w26 =>
 ∃ x117v1 : Int, v28 = (.int .u64 x117v1) ∧
 (∃ S11 : World → Prop, (∀ x, S11 x → S8 x) ∧ S11 w26 ∧
 (CALL PG 82 [(.agg #[(.int .u64 x118v9), (.int .i64 x118v10), (.bool x118v11), (.int .i64 x118v12), (.int .u32 x118v13), (.int .i64 x118v14), (.int .i64 x118v15), (.bool x118v16), (.bool x118v17)])] w26 fun v29 w27 =>
 ∃ x119v9 : Int, ∃ x119v10 : Int, ∃ x119v11 : Bool, ∃ x119v12 : Int, ∃ x119v13 : Int, ∃ x119v14 : Int, ∃ x119v15 : Int, ∃ x119v16 : Bool, ∃ x119v17 : Bool, v29 = (.agg #[(.int .u64 x119v9), (.int .i64 x119v10), (.bool x119v11), (.int .i64 x119v12), (.int .u32 x119v13), (.int .i64 x119v14), (.int .i64 x119v15), (.bool x119v16), (.bool x119v17)]) ∧
 (CALL PG 84 [(.agg #[(.int .u64 x119v9), (.int .i64 x119v10), (.bool x119v11), (.int .i64 x119v12), (.int .u32 x119v13), (.int .i64 x119v14), (.int .i64 x119v15), (.bool x119v16), (.bool x119v17)])] w27 fun v30 w28 =>
 ∃ x120v1 : Int, v30 = (.int .u64 x120v1) ∧
 (IFB (x117v1 != x120v1)
 (Q (.bool false) w28)
 (LETI (IntKind.i64.wrap (i + (1 : Int))) fun i2 =>
 ∃ m3, m3 < m1 ∧ I m3 x43 x43N x43C i2 w28))))))))))))))))))))))))))))))))))))))))))
 (CALL PG 36 [] w2 fun v31 w29 =>
 ∃ x123 : Bool, v31 = (.bool x123) ∧
 (LETB x123 fun x4 =>
 Q (.bool x4) w29)))))))
theorem eq14 : ∀ (many : Int) (l : Option Addr) (lN lC : Nat) (w : World) (Q : Value → World → Prop), vcF PG TB Try.f14 (.s .nil (.s .nil (.s .nil (.s .nil (.s .nil (.s (.s .nil (.u (.loop [(6, 122), (7, 3)] .nil))) .nil)))))) [(.int .i64 many), (.slice l lN lC)] w Q = N14 many l lN lC w Q := by intros; kernel_rfl
theorem call14 {many : Int} {l : Option Addr} {lN lC : Nat} {w : World} {Q : Value → World → Prop} (hN : N14 many l lN lC w Q) : CALL PG 14 [(.int .i64 many), (.slice l lN lC)] w Q := calls_vc tabOk Try.func14 (by rw [eq14]; exact hN)

end Go.Br
