/- What the code of some functions says, as the core reads it; each reading is checked by the kernel. -/
import Derived.Test.YtmglifmopjedbaaGreatBrSeat
set_option linter.unusedVariables false
set_option maxRecDepth 100000
namespace Go.Br
open Go Go.Proofs
def N3 (c : Int) (c1 : Int) (c2 : Int) (c3 : Int) (c4 : Int) (c5 : Int) (c6 : Int) (c7 : Int) (c8 : Int) (c9 : Int) (c10 : Int) (c11 : Int) (c12 : Int) (c13 : Int) (c14 : Int) (x : Int) (x1 : Int) (x2 : Int) (x3 : Int) (x4 : Int) (x5 : Int) (w : World) (Q : QP) : Prop :=
 RUNA PG (Instr.box 24 (.agg #[(.int .i64 c),(.int .i64 c1),(.int .i64 c2),(.int .i64 c3),(.int .i64 c4),(.int .i64 c5),(.int .i64 c6),(.int .i64 c7),(.int .i64 c8),(.int .i64 c9),(.int .i64 c10),(.int .i64 c11),(.int .i64 c12),(.int .i64 c13),(.int .i64 c14)])) w fun a2 w1 =>
 RUNA PG (Instr.box 30 (.agg #[(.int .u64 x),(.int .u64 x1),(.int .u32 x2),(.int .u32 x3),(.int .u64 x4),(.int .u64 x5)])) w1 fun a3 w2 =>
 RD PG (loadVar 24 a2) w2 fun v =>
 ∃ x10 : Int,∃ x10v1 : Int,∃ x10v2 : Int,∃ x10v3 : Int,∃ x10v4 : Int,∃ x10v5 : Int,∃ x10v6 : Int,∃ x10v7 : Int,∃ x10v8 : Int,∃ x10v9 : Int,∃ x10v10 : Int,∃ x10v11 : Int,∃ x10v12 : Int,∃ x10v13 : Int,∃ x10v14 : Int,v = (.agg #[(.int .i64 x10),(.int .i64 x10v1),(.int .i64 x10v2),(.int .i64 x10v3),(.int .i64 x10v4),(.int .i64 x10v5),(.int .i64 x10v6),(.int .i64 x10v7),(.int .i64 x10v8),(.int .i64 x10v9),(.int .i64 x10v10),(.int .i64 x10v11),(.int .i64 x10v12),(.int .i64 x10v13),(.int .i64 x10v14)]) /\
 (CALL PG 4 [(.agg #[(.int .i64 x10),(.int .i64 x10v1),(.int .i64 x10v2),(.int .i64 x10v3),(.int .i64 x10v4),(.int .i64 x10v5),(.int .i64 x10v6),(.int .i64 x10v7),(.int .i64 x10v8),(.int .i64 x10v9),(.int .i64 x10v10),(.int .i64 x10v11),(.int .i64 x10v12),(.int .i64 x10v13),(.int .i64 x10v14)])] w2 fun v1 w3 =>
 ∃ x11 : Bool,v1 = (.bool x11) /\
 (IFB (!x11)
 (Q (.bool true) w3)
 (RD PG (loadVar 24 a2) w3 fun v2 =>
 ∃ x13 : Int,∃ x13v1 : Int,∃ x13v2 : Int,∃ x13v3 : Int,∃ x13v4 : Int,∃ x13v5 : Int,∃ x13v6 : Int,∃ x13v7 : Int,∃ x13v8 : Int,∃ x13v9 : Int,∃ x13v10 : Int,∃ x13v11 : Int,∃ x13v12 : Int,∃ x13v13 : Int,∃ x13v14 : Int,v2 = (.agg #[(.int .i64 x13),(.int .i64 x13v1),(.int .i64 x13v2),(.int .i64 x13v3),(.int .i64 x13v4),(.int .i64 x13v5),(.int .i64 x13v6),(.int .i64 x13v7),(.int .i64 x13v8),(.int .i64 x13v9),(.int .i64 x13v10),(.int .i64 x13v11),(.int .i64 x13v12),(.int .i64 x13v13),(.int .i64 x13v14)]) /\
 (RD PG (loadVar 30 a3) w3 fun v3 =>
 ∃ x14 : Int,∃ x14v1 : Int,∃ x14v2 : Int,∃ x14v3 : Int,∃ x14v4 : Int,∃ x14v5 : Int,v3 = (.agg #[(.int .u64 x14),(.int .u64 x14v1),(.int .u32 x14v2),(.int .u32 x14v3),(.int .u64 x14v4),(.int .u64 x14v5)]) /\
 (CALL PG 5 [(.agg #[(.int .i64 x13),(.int .i64 x13v1),(.int .i64 x13v2),(.int .i64 x13v3),(.int .i64 x13v4),(.int .i64 x13v5),(.int .i64 x13v6),(.int .i64 x13v7),(.int .i64 x13v8),(.int .i64 x13v9),(.int .i64 x13v10),(.int .i64 x13v11),(.int .i64 x13v12),(.int .i64 x13v13),(.int .i64 x13v14)]),(.agg #[(.int .u64 x14),(.int .u64 x14v1),(.int .u32 x14v2),(.int .u32 x14v3),(.int .u64 x14v4),(.int .u64 x14v5)])] w3 fun v4 w4 =>
 ∃ x15 : Option Addr,v4 = (.pointer x15) /\
 (IFB (x15.isNone)
 (Q (.bool false) w4)
 (NILC x15 fun a20 =>
 RDL PG (loadVar 36 (a20.add 24)) w4 fun x22 x22N x22C =>
 IFB ((x22N : Int) != 1)
 (Q (.bool false) w4)
 (NILC x15 fun a28 =>
 RDP PG (loadVar 34 (a28.add 0)) w4 fun x30 =>
 CALL PG 6 [(.pointer x30)] w4 fun v5 w5 =>
 ∃ x31 : Int,v5 = (.int .i64 x31) /\
 (IFB (x31 != 1)
 (Q (.bool false) w5)
 (RD PG (Instr.build 43 #[]) w5 fun v6 =>
 ∃ (x35 : Option Addr) (x35N x35C : Nat),∃ (x35v1 : Option Addr) (x35N1 x35C1 : Nat),∃ (x35v2 : Option Addr) (x35N2 x35C2 : Nat),∃ (x35v3 : Option Addr) (x35N3 x35C3 : Nat),v6 = (.agg #[(.slice x35 x35N x35C),(.slice x35v1 x35N1 x35C1),(.slice x35v2 x35N2 x35C2),(.slice x35v3 x35N3 x35C3)]) /\
 (RD PG (Instr.build 46 #[]) w5 fun v7 =>
 ∃ x36 : Int,∃ x36v1 : Int,∃ x36v2 : Int,∃ (x36v3 : Option Addr) (x36N x36C : Nat),v7 = (.agg #[(.int .i64 x36),(.int .i64 x36v1),(.int .i64 x36v2),(.slice x36v3 x36N x36C)]) /\
 (CALL PG 7 [(.pointer x15),(.agg #[(.slice x35 x35N x35C),(.slice x35v1 x35N1 x35C1),(.slice x35v2 x35N2 x35C2),(.slice x35v3 x35N3 x35C3)]),(.agg #[(.int .i64 x36),(.int .i64 x36v1),(.int .i64 x36v2),(.slice x36v3 x36N x36C)])] w5 fun v8 w6 =>
 ∃ (x37 : Option Addr) (x37N x37C : Nat),∃ (x37v1 : Option Addr) (x37N1 x37C1 : Nat),∃ (x37v2 : Option Addr) (x37N2 x37C2 : Nat),∃ (x37v3 : Option Addr) (x37N3 x37C3 : Nat),v8 = (.agg #[(.slice x37 x37N x37C),(.slice x37v1 x37N1 x37C1),(.slice x37v2 x37N2 x37C2),(.slice x37v3 x37N3 x37C3)]) /\
 (NILC x15 fun a39 =>
 RDP PG (loadVar 34 (a39.add 1)) w6 fun x41 =>
 IFB (x41.isNone)
 (Q (.bool false) w6)
 (NILC x15 fun a45 =>
 RDL PG (loadVar 36 (a45.add 24)) w6 fun x47 x47N x47C =>
 IFB ((x47N : Int) != 1)
 (Q (.bool false) w6)
 (NILC x15 fun a53 =>
 RDP PG (loadVar 34 (a53.add 1)) w6 fun x55 =>
 CALL PG 6 [(.pointer x55)] w6 fun v9 w7 =>
 ∃ x56 : Int,v9 = (.int .i64 x56) /\
 (IFB (x56 != 1)
 (Q (.bool false) w7)
 (RD PG (Instr.build 43 #[]) w7 fun v10 =>
 ∃ (x60 : Option Addr) (x60N x60C : Nat),∃ (x60v1 : Option Addr) (x60N1 x60C1 : Nat),∃ (x60v2 : Option Addr) (x60N2 x60C2 : Nat),∃ (x60v3 : Option Addr) (x60N3 x60C3 : Nat),v10 = (.agg #[(.slice x60 x60N x60C),(.slice x60v1 x60N1 x60C1),(.slice x60v2 x60N2 x60C2),(.slice x60v3 x60N3 x60C3)]) /\
 (RD PG (Instr.build 46 #[]) w7 fun v11 =>
 ∃ x61 : Int,∃ x61v1 : Int,∃ x61v2 : Int,∃ (x61v3 : Option Addr) (x61N x61C : Nat),v11 = (.agg #[(.int .i64 x61),(.int .i64 x61v1),(.int .i64 x61v2),(.slice x61v3 x61N x61C)]) /\
 (CALL PG 7 [(.pointer x15),(.agg #[(.slice x60 x60N x60C),(.slice x60v1 x60N1 x60C1),(.slice x60v2 x60N2 x60C2),(.slice x60v3 x60N3 x60C3)]),(.agg #[(.int .i64 x61),(.int .i64 x61v1),(.int .i64 x61v2),(.slice x61v3 x61N x61C)])] w7 fun v12 w8 =>
 ∃ (x62 : Option Addr) (x62N x62C : Nat),∃ (x62v1 : Option Addr) (x62N1 x62C1 : Nat),∃ (x62v2 : Option Addr) (x62N2 x62C2 : Nat),∃ (x62v3 : Option Addr) (x62N3 x62C3 : Nat),v12 = (.agg #[(.slice x62 x62N x62C),(.slice x62v1 x62N1 x62C1),(.slice x62v2 x62N2 x62C2),(.slice x62v3 x62N3 x62C3)]) /\
 (NILC x15 fun a64 =>
 RDP PG (loadVar 34 (a64.add 0)) w8 fun x66 =>
 CALL PG 6 [(.pointer x66)] w8 fun v13 w9 =>
 ∃ x67 : Int,v13 = (.int .i64 x67) /\
 (IFB (x67 != 3)
 (Q (.bool false) w9)
 (NILC x15 fun a71 =>
 RDL PG (loadVar 36 (a71.add 24)) w9 fun x73 x73N x73C =>
 IFB ((x73N : Int) != 1)
 (Q (.bool false) w9)
 (RD PG (Instr.build 43 #[]) w9 fun v14 =>
 ∃ (x78 : Option Addr) (x78N x78C : Nat),∃ (x78v1 : Option Addr) (x78N1 x78C1 : Nat),∃ (x78v2 : Option Addr) (x78N2 x78C2 : Nat),∃ (x78v3 : Option Addr) (x78N3 x78C3 : Nat),v14 = (.agg #[(.slice x78 x78N x78C),(.slice x78v1 x78N1 x78C1),(.slice x78v2 x78N2 x78C2),(.slice x78v3 x78N3 x78C3)]) /\
 (RD PG (Instr.build 46 #[]) w9 fun v15 =>
 ∃ x79 : Int,∃ x79v1 : Int,∃ x79v2 : Int,∃ (x79v3 : Option Addr) (x79N x79C : Nat),v15 = (.agg #[(.int .i64 x79),(.int .i64 x79v1),(.int .i64 x79v2),(.slice x79v3 x79N x79C)]) /\
 (CALL PG 7 [(.pointer x15),(.agg #[(.slice x78 x78N x78C),(.slice x78v1 x78N1 x78C1),(.slice x78v2 x78N2 x78C2),(.slice x78v3 x78N3 x78C3)]),(.agg #[(.int .i64 x79),(.int .i64 x79v1),(.int .i64 x79v2),(.slice x79v3 x79N x79C)])] w9 fun v16 w10 =>
 ∃ (x80 : Option Addr) (x80N x80C : Nat),∃ (x80v1 : Option Addr) (x80N1 x80C1 : Nat),∃ (x80v2 : Option Addr) (x80N2 x80C2 : Nat),∃ (x80v3 : Option Addr) (x80N3 x80C3 : Nat),v16 = (.agg #[(.slice x80 x80N x80C),(.slice x80v1 x80N1 x80C1),(.slice x80v2 x80N2 x80C2),(.slice x80v3 x80N3 x80C3)]) /\
 (∃ S : World -> Prop,S (w10.drew) /\
 (NILC x15 fun a82 =>
 RDSP PG (loadVar 34 (a82.add 0)) S fun x84 =>
 NILC x15 fun a87 =>
 RDSP PG (loadVar 34 (a87.add 1)) S fun x89 =>
 (CALL PG 8 [(.pointer x84)] (w10.drew) fun v17 w11 =>
 ∃ x85 : Int,∃ x85v1 : Int,∃ x85v2 : Int,∃ x85v3 : Int,∃ x85v4 : Int,∃ x85v5 : Int,∃ x85v6 : Int,∃ x85v7 : Int,∃ x85v8 : Int,∃ x85v9 : Int,∃ x85v10 : Int,∃ x85v11 : Int,∃ x85v12 : Bool,∃ x85v13 : Bool,∃ x85v14 : Int,∃ x85v15 : Int,∃ x85v16 : Int,∃ x85v17 : Int,v17 = (.agg #[(.int .i64 x85),(.int .i64 x85v1),(.int .i64 x85v2),(.int .u64 x85v3),(.int .u64 x85v4),(.int .i64 x85v5),(.int .u16 x85v6),(.int .u16 x85v7),(.int .u64 x85v8),(.int .u64 x85v9),(.int .u64 x85v10),(.int .u64 x85v11),(.bool x85v12),(.bool x85v13),(.int .i64 x85v14),(.int .i64 x85v15),(.int .i64 x85v16),(.int .i64 x85v17)]) /\
 (∃ S1 : World -> Prop,(∀ x,S1 x -> S x) /\ S1 w11 /\
 ((CALL PG 8 [(.pointer x89)] w11 fun v18 w12 =>
 ∃ x90 : Int,∃ x90v1 : Int,∃ x90v2 : Int,∃ x90v3 : Int,∃ x90v4 : Int,∃ x90v5 : Int,∃ x90v6 : Int,∃ x90v7 : Int,∃ x90v8 : Int,∃ x90v9 : Int,∃ x90v10 : Int,∃ x90v11 : Int,∃ x90v12 : Bool,∃ x90v13 : Bool,∃ x90v14 : Int,∃ x90v15 : Int,∃ x90v16 : Int,∃ x90v17 : Int,v18 = (.agg #[(.int .i64 x90),(.int .i64 x90v1),(.int .i64 x90v2),(.int .u64 x90v3),(.int .u64 x90v4),(.int .i64 x90v5),(.int .u16 x90v6),(.int .u16 x90v7),(.int .u64 x90v8),(.int .u64 x90v9),(.int .u64 x90v10),(.int .u64 x90v11),(.bool x90v12),(.bool x90v13),(.int .i64 x90v14),(.int .i64 x90v15),(.int .i64 x90v16),(.int .i64 x90v17)]) /\
 (∃ S2 : World -> Prop,(∀ x,S2 x -> S1 x) /\ S2 w12 /\
 ((RUNA PG (Instr.alloc 53 true (.tuple #[])) w12 fun a6 w13 =>
 ∃ S3 : World -> Prop,(∀ x,S3 x -> S2 x) /\ S3 w13 /\
 (RUNA PG (Instr.alloc 53 true (.tuple #[])) w13 fun a7 w14 =>
 ∃ S4 : World -> Prop,(∀ x,S4 x -> S3 x) /\ S4 w14 /\
 (RUNU PG (storeVar 53 a6 (.agg #[(.int .i64 x85),(.int .i64 x85v1),(.int .i64 x85v2),(.int .u64 x85v3),(.int .u64 x85v4),(.int .i64 x85v5),(.int .u16 x85v6),(.int .u16 x85v7),(.int .u64 x85v8),(.int .u64 x85v9),(.int .u64 x85v10),(.int .u64 x85v11),(.bool x85v12),(.bool x85v13),(.int .i64 x85v14),(.int .i64 x85v15),(.int .i64 x85v16),(.int .i64 x85v17)])) w14 fun w15 =>
 RUNU PG (storeVar 53 a7 (.agg #[(.int .i64 x90),(.int .i64 x90v1),(.int .i64 x90v2),(.int .u64 x90v3),(.int .u64 x90v4),(.int .i64 x90v5),(.int .u16 x90v6),(.int .u16 x90v7),(.int .u64 x90v8),(.int .u64 x90v9),(.int .u64 x90v10),(.int .u64 x90v11),(.bool x90v12),(.bool x90v13),(.int .i64 x90v14),(.int .i64 x90v15),(.int .i64 x90v16),(.int .i64 x90v17)])) w15 fun w16 =>
 RDI PG (loadVar 25 (a3.add 0)) .u64 w16 fun x92 =>
 RDI PG (loadVar 25 (a3.add 1)) .u64 w16 fun x94 =>
 CALL PG 9 [(.int .u64 x92),(.int .u64 x94)] w16 fun v19 w17 =>
 ∃ x95 : Int,∃ x95v1 : Int,∃ x95v2 : Int,∃ x95v3 : Int,∃ x95v4 : Int,∃ x95v5 : Int,∃ x95v6 : Int,∃ x95v7 : Int,∃ x95v8 : Int,v19 = (.agg #[(.int .u64 x95),(.int .u64 x95v1),(.int .u64 x95v2),(.int .u64 x95v3),(.int .u64 x95v4),(.int .u64 x95v5),(.int .u64 x95v6),(.int .u64 x95v7),(.int .u32 x95v8)]) /\
 (RUNA PG (Instr.alloc 56 true (.tuple #[])) w17 fun a8 w18 =>
 RUNU PG (storeVar 56 a8 (.agg #[(.int .u64 x95),(.int .u64 x95v1),(.int .u64 x95v2),(.int .u64 x95v3),(.int .u64 x95v4),(.int .u64 x95v5),(.int .u64 x95v6),(.int .u64 x95v7),(.int .u32 x95v8)])) w18 fun w19 =>
 ∃ R : Bool -> World -> Prop,
 (∃ S5 : World -> Prop,S5 (w19.drew) /\
 (RDSI PG (loadVar 49 ((a6.add 5).add 1)) .u16 S5 fun x98 =>
 RDSI PG (loadVar 49 ((a7.add 5).add 2)) .u16 S5 fun x101 =>
 IFB (x98 == x101)
 (RDSI PG (loadVar 49 ((a6.add 5).add 2)) .u16 S5 fun x106 =>
 RDSI PG (loadVar 49 ((a7.add 5).add 1)) .u16 S5 fun x109 =>
 IFB (x106 == x109)
 (RDSI PG (loadVar 3 (a6.add 15)) .i64 S5 fun x114 =>
 IFB (x114 == 1)
 (RDSI PG (loadVar 3 (a7.add 15)) .i64 S5 fun x119 =>
 IFB (x119 == 1)
 (NILC x15 fun a124 =>
 RDSP PG (loadVar 34 (a124.add 0)) S5 fun x126 =>
 RDS PG (loadVar 24 a2) S5 fun v20 =>
 ∃ x128 : Int,∃ x128v1 : Int,∃ x128v2 : Int,∃ x128v3 : Int,∃ x128v4 : Int,∃ x128v5 : Int,∃ x128v6 : Int,∃ x128v7 : Int,∃ x128v8 : Int,∃ x128v9 : Int,∃ x128v10 : Int,∃ x128v11 : Int,∃ x128v12 : Int,∃ x128v13 : Int,∃ x128v14 : Int,v20 = (.agg #[(.int .i64 x128),(.int .i64 x128v1),(.int .i64 x128v2),(.int .i64 x128v3),(.int .i64 x128v4),(.int .i64 x128v5),(.int .i64 x128v6),(.int .i64 x128v7),(.int .i64 x128v8),(.int .i64 x128v9),(.int .i64 x128v10),(.int .i64 x128v11),(.int .i64 x128v12),(.int .i64 x128v13),(.int .i64 x128v14)]) /\
 (CALL PG 10 [(.pointer x126)] (w19.drew) fun v21 w20 =>
 ∃ x127 : Int,∃ x127v1 : Int,∃ x127v2 : Int,∃ x127v3 : Int,∃ x127v4 : Int,∃ x127v5 : Int,∃ x127v6 : Int,∃ x127v7 : Int,∃ x127v8 : Int,∃ x127v9 : Int,∃ x127v10 : Int,∃ x127v11 : Int,∃ x127v12 : Int,∃ x127v13 : Int,∃ x127v14 : Int,v21 = (.agg #[(.int .i64 x127),(.int .i64 x127v1),(.int .i64 x127v2),(.int .i64 x127v3),(.int .i64 x127v4),(.int .i64 x127v5),(.int .i64 x127v6),(.int .i64 x127v7),(.int .i64 x127v8),(.int .i64 x127v9),(.int .i64 x127v10),(.int .i64 x127v11),(.int .i64 x127v12),(.int .i64 x127v13),(.int .i64 x127v14)]) /\
 (∃ S6 : World -> Prop,(∀ x,S6 x -> S5 x) /\ S6 w20 /\
 (RDSB PG (do eqGuard .eql 24 (.tmp 127) (.tmp 128) (.agg #[(.int .i64 x127),(.int .i64 x127v1),(.int .i64 x127v2),(.int .i64 x127v3),(.int .i64 x127v4),(.int .i64 x127v5),(.int .i64 x127v6),(.int .i64 x127v7),(.int .i64 x127v8),(.int .i64 x127v9),(.int .i64 x127v10),(.int .i64 x127v11),(.int .i64 x127v12),(.int .i64 x127v13),(.int .i64 x127v14)]) (.agg #[(.int .i64 x128),(.int .i64 x128v1),(.int .i64 x128v2),(.int .i64 x128v3),(.int .i64 x128v4),(.int .i64 x128v5),(.int .i64 x128v6),(.int .i64 x128v7),(.int .i64 x128v8),(.int .i64 x128v9),(.int .i64 x128v10),(.int .i64 x128v11),(.int .i64 x128v12),(.int .i64 x128v13),(.int .i64 x128v14)]); binOp .eql 24 (.agg #[(.int .i64 x127),(.int .i64 x127v1),(.int .i64 x127v2),(.int .i64 x127v3),(.int .i64 x127v4),(.int .i64 x127v5),(.int .i64 x127v6),(.int .i64 x127v7),(.int .i64 x127v8),(.int .i64 x127v9),(.int .i64 x127v10),(.int .i64 x127v11),(.int .i64 x127v12),(.int .i64 x127v13),(.int .i64 x127v14)]) (.agg #[(.int .i64 x128),(.int .i64 x128v1),(.int .i64 x128v2),(.int .i64 x128v3),(.int .i64 x128v4),(.int .i64 x128v5),(.int .i64 x128v6),(.int .i64 x128v7),(.int .i64 x128v8),(.int .i64 x128v9),(.int .i64 x128v10),(.int .i64 x128v11),(.int .i64 x128v12),(.int .i64 x128v13),(.int .i64 x128v14)])) S6 fun x129 =>
 LETB x129 fun fits =>
 R fits w20))))
 (LETB false fun fits1 =>
 R fits1 (w19.drew)))
 (LETB false fun fits2 =>
 R fits2 (w19.drew)))
 (LETB false fun fits3 =>
 R fits3 (w19.drew)))
 (LETB false fun fits4 =>
 R fits4 (w19.drew)))) /\
 (∀ (fits5 : Bool) (w21 : World),R fits5 w21 -> (RDI PG (loadVar 39 (a7.add 0)) .i64 (w21.drew) fun x132 =>
 IFB (x132 == 3)
 (RDI PG (loadVar 48 (a6.add 2)) .i64 (w21.drew) fun x136 =>
 IFB (x136 == 1)
 (RDI PG (loadVar 48 (a7.add 2)) .i64 (w21.drew) fun x141 =>
 IFB (x141 == 2)
 (RD PG (loadVar 28 (a6.add 3)) (w21.drew) fun v22 =>
 ∃ x146 : Int,∃ x146v1 : Int,v22 = (.agg #[(.int .u64 x146),(.int .u64 x146v1)]) /\
 (RD PG (loadVar 28 (a8.add 0)) (w21.drew) fun v23 =>
 ∃ x148 : Int,∃ x148v1 : Int,v23 = (.agg #[(.int .u64 x148),(.int .u64 x148v1)]) /\
 (RDB PG (do eqGuard .eql 28 (.tmp 146) (.tmp 148) (.agg #[(.int .u64 x146),(.int .u64 x146v1)]) (.agg #[(.int .u64 x148),(.int .u64 x148v1)]); binOp .eql 28 (.agg #[(.int .u64 x146),(.int .u64 x146v1)]) (.agg #[(.int .u64 x148),(.int .u64 x148v1)])) (w21.drew) fun x149 =>
 IFB x149
 (RD PG (loadVar 28 (a7.add 3)) (w21.drew) fun v24 =>
 ∃ x153 : Int,∃ x153v1 : Int,v24 = (.agg #[(.int .u64 x153),(.int .u64 x153v1)]) /\
 (RD PG (loadVar 28 (a8.add 0)) (w21.drew) fun v25 =>
 ∃ x155 : Int,∃ x155v1 : Int,v25 = (.agg #[(.int .u64 x155),(.int .u64 x155v1)]) /\
 (RDB PG (do eqGuard .eql 28 (.tmp 153) (.tmp 155) (.agg #[(.int .u64 x153),(.int .u64 x153v1)]) (.agg #[(.int .u64 x155),(.int .u64 x155v1)]); binOp .eql 28 (.agg #[(.int .u64 x153),(.int .u64 x153v1)]) (.agg #[(.int .u64 x155),(.int .u64 x155v1)])) (w21.drew) fun x156 =>
 IFB x156
 (NILC x15 fun a160 =>
 RDP PG (loadVar 34 (a160.add 0)) (w21.drew) fun x162 =>
 NILC x162 fun a163 =>
 RD PG (loadVar 56 (a163.add 0)) (w21.drew) fun v26 =>
 ∃ x165 : Int,∃ x165v1 : Int,∃ x165v2 : Int,∃ x165v3 : Int,∃ x165v4 : Int,∃ x165v5 : Int,∃ x165v6 : Int,∃ x165v7 : Int,∃ x165v8 : Int,v26 = (.agg #[(.int .u64 x165),(.int .u64 x165v1),(.int .u64 x165v2),(.int .u64 x165v3),(.int .u64 x165v4),(.int .u64 x165v5),(.int .u64 x165v6),(.int .u64 x165v7),(.int .u32 x165v8)]) /\
 (RD PG (loadVar 56 a8) (w21.drew) fun v27 =>
 ∃ x166 : Int,∃ x166v1 : Int,∃ x166v2 : Int,∃ x166v3 : Int,∃ x166v4 : Int,∃ x166v5 : Int,∃ x166v6 : Int,∃ x166v7 : Int,∃ x166v8 : Int,v27 = (.agg #[(.int .u64 x166),(.int .u64 x166v1),(.int .u64 x166v2),(.int .u64 x166v3),(.int .u64 x166v4),(.int .u64 x166v5),(.int .u64 x166v6),(.int .u64 x166v7),(.int .u32 x166v8)]) /\
 (RDB PG (do eqGuard .eql 56 (.tmp 165) (.tmp 166) (.agg #[(.int .u64 x165),(.int .u64 x165v1),(.int .u64 x165v2),(.int .u64 x165v3),(.int .u64 x165v4),(.int .u64 x165v5),(.int .u64 x165v6),(.int .u64 x165v7),(.int .u32 x165v8)]) (.agg #[(.int .u64 x166),(.int .u64 x166v1),(.int .u64 x166v2),(.int .u64 x166v3),(.int .u64 x166v4),(.int .u64 x166v5),(.int .u64 x166v6),(.int .u64 x166v7),(.int .u32 x166v8)]); binOp .eql 56 (.agg #[(.int .u64 x165),(.int .u64 x165v1),(.int .u64 x165v2),(.int .u64 x165v3),(.int .u64 x165v4),(.int .u64 x165v5),(.int .u64 x165v6),(.int .u64 x165v7),(.int .u32 x165v8)]) (.agg #[(.int .u64 x166),(.int .u64 x166v1),(.int .u64 x166v2),(.int .u64 x166v3),(.int .u64 x166v4),(.int .u64 x166v5),(.int .u64 x166v6),(.int .u64 x166v7),(.int .u32 x166v8)])) (w21.drew) fun x167 =>
 IFB x167
 (NILC x15 fun a171 =>
 RDP PG (loadVar 34 (a171.add 1)) (w21.drew) fun x173 =>
 NILC x173 fun a174 =>
 RD PG (loadVar 56 (a174.add 0)) (w21.drew) fun v28 =>
 ∃ x176 : Int,∃ x176v1 : Int,∃ x176v2 : Int,∃ x176v3 : Int,∃ x176v4 : Int,∃ x176v5 : Int,∃ x176v6 : Int,∃ x176v7 : Int,∃ x176v8 : Int,v28 = (.agg #[(.int .u64 x176),(.int .u64 x176v1),(.int .u64 x176v2),(.int .u64 x176v3),(.int .u64 x176v4),(.int .u64 x176v5),(.int .u64 x176v6),(.int .u64 x176v7),(.int .u32 x176v8)]) /\
 (RD PG (loadVar 56 a8) (w21.drew) fun v29 =>
 ∃ x177 : Int,∃ x177v1 : Int,∃ x177v2 : Int,∃ x177v3 : Int,∃ x177v4 : Int,∃ x177v5 : Int,∃ x177v6 : Int,∃ x177v7 : Int,∃ x177v8 : Int,v29 = (.agg #[(.int .u64 x177),(.int .u64 x177v1),(.int .u64 x177v2),(.int .u64 x177v3),(.int .u64 x177v4),(.int .u64 x177v5),(.int .u64 x177v6),(.int .u64 x177v7),(.int .u32 x177v8)]) /\
 (RDB PG (do eqGuard .eql 56 (.tmp 176) (.tmp 177) (.agg #[(.int .u64 x176),(.int .u64 x176v1),(.int .u64 x176v2),(.int .u64 x176v3),(.int .u64 x176v4),(.int .u64 x176v5),(.int .u64 x176v6),(.int .u64 x176v7),(.int .u32 x176v8)]) (.agg #[(.int .u64 x177),(.int .u64 x177v1),(.int .u64 x177v2),(.int .u64 x177v3),(.int .u64 x177v4),(.int .u64 x177v5),(.int .u64 x177v6),(.int .u64 x177v7),(.int .u32 x177v8)]); binOp .eql 56 (.agg #[(.int .u64 x176),(.int .u64 x176v1),(.int .u64 x176v2),(.int .u64 x176v3),(.int .u64 x176v4),(.int .u64 x176v5),(.int .u64 x176v6),(.int .u64 x176v7),(.int .u32 x176v8)]) (.agg #[(.int .u64 x177),(.int .u64 x177v1),(.int .u64 x177v2),(.int .u64 x177v3),(.int .u64 x177v4),(.int .u64 x177v5),(.int .u64 x177v6),(.int .u64 x177v7),(.int .u32 x177v8)])) (w21.drew) fun x178 =>
 IFB x178
 (IFB fits5
 (NILC x15 fun a185 =>
 RDP PG (loadVar 34 (a185.add 0)) (w21.drew) fun x187 =>
 CALL PG 11 [(.pointer x187)] (w21.drew) fun v30 w22 =>
 ∃ (x188 : Option Addr) (x188N x188C : Nat),v30 = (.slice x188 x188N x188C) /\
 (IFB ((x188N : Int) == 1)
 (CALL PG 12 [] w22 fun v31 w23 =>
 ∃ x193 : Bool,v31 = (.bool x193) /\
 (LETB x193 fun x4v1 =>
 Q (.bool x4v1) w23))
 (LETB false fun x4v2 =>
 Q (.bool x4v2) w22)))
 (LETB false fun x4v3 =>
 Q (.bool x4v3) (w21.drew)))
 (LETB false fun x4v4 =>
 Q (.bool x4v4) (w21.drew)))))
 (LETB false fun x4v5 =>
 Q (.bool x4v5) (w21.drew)))))
 (LETB false fun x4v6 =>
 Q (.bool x4v6) (w21.drew)))))
 (LETB false fun x4v7 =>
 Q (.bool x4v7) (w21.drew)))))
 (LETB false fun x4v8 =>
 Q (.bool x4v8) (w21.drew)))
 (LETB false fun x4v9 =>
 Q (.bool x4v9) (w21.drew)))
 (LETB false fun x4v10 =>
 Q (.bool x4v10) (w21.drew)))))))) /\
 (RUNA PG (Instr.alloc 53 true (.tuple #[])) w12 fun a7v1 w24 =>
 ∃ S7 : World -> Prop,(∀ x,S7 x -> S2 x) /\ S7 w24 /\
 (RUNA PG (Instr.alloc 53 true (.tuple #[])) w24 fun a6v1 w25 =>
 ∃ S8 : World -> Prop,(∀ x,S8 x -> S7 x) /\ S8 w25 /\
 (RUNU PG (storeVar 53 a6v1 (.agg #[(.int .i64 x85),(.int .i64 x85v1),(.int .i64 x85v2),(.int .u64 x85v3),(.int .u64 x85v4),(.int .i64 x85v5),(.int .u16 x85v6),(.int .u16 x85v7),(.int .u64 x85v8),(.int .u64 x85v9),(.int .u64 x85v10),(.int .u64 x85v11),(.bool x85v12),(.bool x85v13),(.int .i64 x85v14),(.int .i64 x85v15),(.int .i64 x85v16),(.int .i64 x85v17)])) w25 fun w26 =>
 RUNU PG (storeVar 53 a7v1 (.agg #[(.int .i64 x90),(.int .i64 x90v1),(.int .i64 x90v2),(.int .u64 x90v3),(.int .u64 x90v4),(.int .i64 x90v5),(.int .u16 x90v6),(.int .u16 x90v7),(.int .u64 x90v8),(.int .u64 x90v9),(.int .u64 x90v10),(.int .u64 x90v11),(.bool x90v12),(.bool x90v13),(.int .i64 x90v14),(.int .i64 x90v15),(.int .i64 x90v16),(.int .i64 x90v17)])) w26 fun w27 =>
 RDI PG (loadVar 25 (a3.add 0)) .u64 w27 fun x92v1 =>
 RDI PG (loadVar 25 (a3.add 1)) .u64 w27 fun x94v1 =>
 CALL PG 9 [(.int .u64 x92v1),(.int .u64 x94v1)] w27 fun v32 w28 =>
 ∃ x95v9 : Int,∃ x95v10 : Int,∃ x95v11 : Int,∃ x95v12 : Int,∃ x95v13 : Int,∃ x95v14 : Int,∃ x95v15 : Int,∃ x95v16 : Int,∃ x95v17 : Int,v32 = (.agg #[(.int .u64 x95v9),(.int .u64 x95v10),(.int .u64 x95v11),(.int .u64 x95v12),(.int .u64 x95v13),(.int .u64 x95v14),(.int .u64 x95v15),(.int .u64 x95v16),(.int .u32 x95v17)]) /\
 (RUNA PG (Instr.alloc 56 true (.tuple #[])) w28 fun a8v1 w29 =>
 RUNU PG (storeVar 56 a8v1 (.agg #[(.int .u64 x95v9),(.int .u64 x95v10),(.int .u64 x95v11),(.int .u64 x95v12),(.int .u64 x95v13),(.int .u64 x95v14),(.int .u64 x95v15),(.int .u64 x95v16),(.int .u32 x95v17)])) w29 fun w30 =>
 ∃ R1 : Bool -> World -> Prop,
 (∃ S9 : World -> Prop,S9 (w30.drew) /\
 (RDSI PG (loadVar 49 ((a6v1.add 5).add 1)) .u16 S9 fun x98v1 =>
 RDSI PG (loadVar 49 ((a7v1.add 5).add 2)) .u16 S9 fun x101v1 =>
 IFB (x98v1 == x101v1)
 (RDSI PG (loadVar 49 ((a6v1.add 5).add 2)) .u16 S9 fun x106v1 =>
 RDSI PG (loadVar 49 ((a7v1.add 5).add 1)) .u16 S9 fun x109v1 =>
 IFB (x106v1 == x109v1)
 (RDSI PG (loadVar 3 (a6v1.add 15)) .i64 S9 fun x114v1 =>
 IFB (x114v1 == 1)
 (RDSI PG (loadVar 3 (a7v1.add 15)) .i64 S9 fun x119v1 =>
 IFB (x119v1 == 1)
 (NILC x15 fun a124v1 =>
 RDSP PG (loadVar 34 (a124v1.add 0)) S9 fun x126v1 =>
 RDS PG (loadVar 24 a2) S9 fun v33 =>
 ∃ x128v15 : Int,∃ x128v16 : Int,∃ x128v17 : Int,∃ x128v18 : Int,∃ x128v19 : Int,∃ x128v20 : Int,∃ x128v21 : Int,∃ x128v22 : Int,∃ x128v23 : Int,∃ x128v24 : Int,∃ x128v25 : Int,∃ x128v26 : Int,∃ x128v27 : Int,∃ x128v28 : Int,∃ x128v29 : Int,v33 = (.agg #[(.int .i64 x128v15),(.int .i64 x128v16),(.int .i64 x128v17),(.int .i64 x128v18),(.int .i64 x128v19),(.int .i64 x128v20),(.int .i64 x128v21),(.int .i64 x128v22),(.int .i64 x128v23),(.int .i64 x128v24),(.int .i64 x128v25),(.int .i64 x128v26),(.int .i64 x128v27),(.int .i64 x128v28),(.int .i64 x128v29)]) /\
 (CALL PG 10 [(.pointer x126v1)] (w30.drew) fun v34 w31 =>
 ∃ x127v15 : Int,∃ x127v16 : Int,∃ x127v17 : Int,∃ x127v18 : Int,∃ x127v19 : Int,∃ x127v20 : Int,∃ x127v21 : Int,∃ x127v22 : Int,∃ x127v23 : Int,∃ x127v24 : Int,∃ x127v25 : Int,∃ x127v26 : Int,∃ x127v27 : Int,∃ x127v28 : Int,∃ x127v29 : Int,v34 = (.agg #[(.int .i64 x127v15),(.int .i64 x127v16),(.int .i64 x127v17),(.int .i64 x127v18),(.int .i64 x127v19),(.int .i64 x127v20),(.int .i64 x127v21),(.int .i64 x127v22),(.int .i64 x127v23),(.int .i64 x127v24),(.int .i64 x127v25),(.int .i64 x127v26),(.int .i64 x127v27),(.int .i64 x127v28),(.int .i64 x127v29)]) /\
 (∃ S10 : World -> Prop,(∀ x,S10 x -> S9 x) /\ S10 w31 /\
 (RDSB PG (do eqGuard .eql 24 (.tmp 127) (.tmp 128) (.agg #[(.int .i64 x127v15),(.int .i64 x127v16),(.int .i64 x127v17),(.int .i64 x127v18),(.int .i64 x127v19),(.int .i64 x127v20),(.int .i64 x127v21),(.int .i64 x127v22),(.int .i64 x127v23),(.int .i64 x127v24),(.int .i64 x127v25),(.int .i64 x127v26),(.int .i64 x127v27),(.int .i64 x127v28),(.int .i64 x127v29)]) (.agg #[(.int .i64 x128v15),(.int .i64 x128v16),(.int .i64 x128v17),(.int .i64 x128v18),(.int .i64 x128v19),(.int .i64 x128v20),(.int .i64 x128v21),(.int .i64 x128v22),(.int .i64 x128v23),(.int .i64 x128v24),(.int .i64 x128v25),(.int .i64 x128v26),(.int .i64 x128v27),(.int .i64 x128v28),(.int .i64 x128v29)]); binOp .eql 24 (.agg #[(.int .i64 x127v15),(.int .i64 x127v16),(.int .i64 x127v17),(.int .i64 x127v18),(.int .i64 x127v19),(.int .i64 x127v20),(.int .i64 x127v21),(.int .i64 x127v22),(.int .i64 x127v23),(.int .i64 x127v24),(.int .i64 x127v25),(.int .i64 x127v26),(.int .i64 x127v27),(.int .i64 x127v28),(.int .i64 x127v29)]) (.agg #[(.int .i64 x128v15),(.int .i64 x128v16),(.int .i64 x128v17),(.int .i64 x128v18),(.int .i64 x128v19),(.int .i64 x128v20),(.int .i64 x128v21),(.int .i64 x128v22),(.int .i64 x128v23),(.int .i64 x128v24),(.int .i64 x128v25),(.int .i64 x128v26),(.int .i64 x128v27),(.int .i64 x128v28),(.int .i64 x128v29)])) S10 fun x129v1 =>
 LETB x129v1 fun fits6 =>
 R1 fits6 w31))))
 (LETB false fun fits7 =>
 R1 fits7 (w30.drew)))
 (LETB false fun fits8 =>
 R1 fits8 (w30.drew)))
 (LETB false fun fits9 =>
 R1 fits9 (w30.drew)))
 (LETB false fun fits10 =>
 R1 fits10 (w30.drew)))) /\
 (∀ (fits11 : Bool) (w32 : World),R1 fits11 w32 -> (RDI PG (loadVar 39 (a7v1.add 0)) .i64 (w32.drew) fun x132v1 =>
 IFB (x132v1 == 3)
 (RDI PG (loadVar 48 (a6v1.add 2)) .i64 (w32.drew) fun x136v1 =>
 IFB (x136v1 == 1)
 (RDI PG (loadVar 48 (a7v1.add 2)) .i64 (w32.drew) fun x141v1 =>
 IFB (x141v1 == 2)
 (RD PG (loadVar 28 (a6v1.add 3)) (w32.drew) fun v35 =>
 ∃ x146v2 : Int,∃ x146v3 : Int,v35 = (.agg #[(.int .u64 x146v2),(.int .u64 x146v3)]) /\
 (RD PG (loadVar 28 (a8v1.add 0)) (w32.drew) fun v36 =>
 ∃ x148v2 : Int,∃ x148v3 : Int,v36 = (.agg #[(.int .u64 x148v2),(.int .u64 x148v3)]) /\
 (RDB PG (do eqGuard .eql 28 (.tmp 146) (.tmp 148) (.agg #[(.int .u64 x146v2),(.int .u64 x146v3)]) (.agg #[(.int .u64 x148v2),(.int .u64 x148v3)]); binOp .eql 28 (.agg #[(.int .u64 x146v2),(.int .u64 x146v3)]) (.agg #[(.int .u64 x148v2),(.int .u64 x148v3)])) (w32.drew) fun x149v1 =>
 IFB x149v1
 (RD PG (loadVar 28 (a7v1.add 3)) (w32.drew) fun v37 =>
 ∃ x153v2 : Int,∃ x153v3 : Int,v37 = (.agg #[(.int .u64 x153v2),(.int .u64 x153v3)]) /\
 (RD PG (loadVar 28 (a8v1.add 0)) (w32.drew) fun v38 =>
 ∃ x155v2 : Int,∃ x155v3 : Int,v38 = (.agg #[(.int .u64 x155v2),(.int .u64 x155v3)]) /\
 (RDB PG (do eqGuard .eql 28 (.tmp 153) (.tmp 155) (.agg #[(.int .u64 x153v2),(.int .u64 x153v3)]) (.agg #[(.int .u64 x155v2),(.int .u64 x155v3)]); binOp .eql 28 (.agg #[(.int .u64 x153v2),(.int .u64 x153v3)]) (.agg #[(.int .u64 x155v2),(.int .u64 x155v3)])) (w32.drew) fun x156v1 =>
 IFB x156v1
 (NILC x15 fun a160v1 =>
 RDP PG (loadVar 34 (a160v1.add 0)) (w32.drew) fun x162v1 =>
 NILC x162v1 fun a163v1 =>
 RD PG (loadVar 56 (a163v1.add 0)) (w32.drew) fun v39 =>
 ∃ x165v9 : Int,∃ x165v10 : Int,∃ x165v11 : Int,∃ x165v12 : Int,∃ x165v13 : Int,∃ x165v14 : Int,∃ x165v15 : Int,∃ x165v16 : Int,∃ x165v17 : Int,v39 = (.agg #[(.int .u64 x165v9),(.int .u64 x165v10),(.int .u64 x165v11),(.int .u64 x165v12),(.int .u64 x165v13),(.int .u64 x165v14),(.int .u64 x165v15),(.int .u64 x165v16),(.int .u32 x165v17)]) /\
 (RD PG (loadVar 56 a8v1) (w32.drew) fun v40 =>
 ∃ x166v9 : Int,∃ x166v10 : Int,∃ x166v11 : Int,∃ x166v12 : Int,∃ x166v13 : Int,∃ x166v14 : Int,∃ x166v15 : Int,∃ x166v16 : Int,∃ x166v17 : Int,v40 = (.agg #[(.int .u64 x166v9),(.int .u64 x166v10),(.int .u64 x166v11),(.int .u64 x166v12),(.int .u64 x166v13),(.int .u64 x166v14),(.int .u64 x166v15),(.int .u64 x166v16),(.int .u32 x166v17)]) /\
 (RDB PG (do eqGuard .eql 56 (.tmp 165) (.tmp 166) (.agg #[(.int .u64 x165v9),(.int .u64 x165v10),(.int .u64 x165v11),(.int .u64 x165v12),(.int .u64 x165v13),(.int .u64 x165v14),(.int .u64 x165v15),(.int .u64 x165v16),(.int .u32 x165v17)]) (.agg #[(.int .u64 x166v9),(.int .u64 x166v10),(.int .u64 x166v11),(.int .u64 x166v12),(.int .u64 x166v13),(.int .u64 x166v14),(.int .u64 x166v15),(.int .u64 x166v16),(.int .u32 x166v17)]); binOp .eql 56 (.agg #[(.int .u64 x165v9),(.int .u64 x165v10),(.int .u64 x165v11),(.int .u64 x165v12),(.int .u64 x165v13),(.int .u64 x165v14),(.int .u64 x165v15),(.int .u64 x165v16),(.int .u32 x165v17)]) (.agg #[(.int .u64 x166v9),(.int .u64 x166v10),(.int .u64 x166v11),(.int .u64 x166v12),(.int .u64 x166v13),(.int .u64 x166v14),(.int .u64 x166v15),(.int .u64 x166v16),(.int .u32 x166v17)])) (w32.drew) fun x167v1 =>
 IFB x167v1
 (NILC x15 fun a171v1 =>
 RDP PG (loadVar 34 (a171v1.add 1)) (w32.drew) fun x173v1 =>
 NILC x173v1 fun a174v1 =>
 RD PG (loadVar 56 (a174v1.add 0)) (w32.drew) fun v41 =>
 ∃ x176v9 : Int,∃ x176v10 : Int,∃ x176v11 : Int,∃ x176v12 : Int,∃ x176v13 : Int,∃ x176v14 : Int,∃ x176v15 : Int,∃ x176v16 : Int,∃ x176v17 : Int,v41 = (.agg #[(.int .u64 x176v9),(.int .u64 x176v10),(.int .u64 x176v11),(.int .u64 x176v12),(.int .u64 x176v13),(.int .u64 x176v14),(.int .u64 x176v15),(.int .u64 x176v16),(.int .u32 x176v17)]) /\
 (RD PG (loadVar 56 a8v1) (w32.drew) fun v42 =>
 ∃ x177v9 : Int,∃ x177v10 : Int,∃ x177v11 : Int,∃ x177v12 : Int,∃ x177v13 : Int,∃ x177v14 : Int,∃ x177v15 : Int,∃ x177v16 : Int,∃ x177v17 : Int,v42 = (.agg #[(.int .u64 x177v9),(.int .u64 x177v10),(.int .u64 x177v11),(.int .u64 x177v12),(.int .u64 x177v13),(.int .u64 x177v14),(.int .u64 x177v15),(.int .u64 x177v16),(.int .u32 x177v17)]) /\
 (RDB PG (do eqGuard .eql 56 (.tmp 176) (.tmp 177) (.agg #[(.int .u64 x176v9),(.int .u64 x176v10),(.int .u64 x176v11),(.int .u64 x176v12),(.int .u64 x176v13),(.int .u64 x176v14),(.int .u64 x176v15),(.int .u64 x176v16),(.int .u32 x176v17)]) (.agg #[(.int .u64 x177v9),(.int .u64 x177v10),(.int .u64 x177v11),(.int .u64 x177v12),(.int .u64 x177v13),(.int .u64 x177v14),(.int .u64 x177v15),(.int .u64 x177v16),(.int .u32 x177v17)]); binOp .eql 56 (.agg #[(.int .u64 x176v9),(.int .u64 x176v10),(.int .u64 x176v11),(.int .u64 x176v12),(.int .u64 x176v13),(.int .u64 x176v14),(.int .u64 x176v15),(.int .u64 x176v16),(.int .u32 x176v17)]) (.agg #[(.int .u64 x177v9),(.int .u64 x177v10),(.int .u64 x177v11),(.int .u64 x177v12),(.int .u64 x177v13),(.int .u64 x177v14),(.int .u64 x177v15),(.int .u64 x177v16),(.int .u32 x177v17)])) (w32.drew) fun x178v1 =>
 IFB x178v1
 (IFB fits11
 (NILC x15 fun a185v1 =>
 RDP PG (loadVar 34 (a185v1.add 0)) (w32.drew) fun x187v1 =>
 CALL PG 11 [(.pointer x187v1)] (w32.drew) fun v43 w33 =>
 ∃ (x188v1 : Option Addr) (x188N1 x188C1 : Nat),v43 = (.slice x188v1 x188N1 x188C1) /\
 (IFB ((x188N1 : Int) == 1)
 (CALL PG 12 [] w33 fun v44 w34 =>
 ∃ x193v1 : Bool,v44 = (.bool x193v1) /\
 (LETB x193v1 fun x4v11 =>
 Q (.bool x4v11) w34))
 (LETB false fun x4v12 =>
 Q (.bool x4v12) w33)))
 (LETB false fun x4v13 =>
 Q (.bool x4v13) (w32.drew)))
 (LETB false fun x4v14 =>
 Q (.bool x4v14) (w32.drew)))))
 (LETB false fun x4v15 =>
 Q (.bool x4v15) (w32.drew)))))
 (LETB false fun x4v16 =>
 Q (.bool x4v16) (w32.drew)))))
 (LETB false fun x4v17 =>
 Q (.bool x4v17) (w32.drew)))))
 (LETB false fun x4v18 =>
 Q (.bool x4v18) (w32.drew)))
 (LETB false fun x4v19 =>
 Q (.bool x4v19) (w32.drew)))
 (LETB false fun x4v20 =>
 Q (.bool x4v20) (w32.drew))))))))))) /\
 (RUNA PG (Instr.alloc 53 true (.tuple #[])) w11 fun a6v2 w35 =>
 ∃ S11 : World -> Prop,(∀ x,S11 x -> S1 x) /\ S11 w35 /\
 ((CALL PG 8 [(.pointer x89)] w35 fun v45 w36 =>
 ∃ x90v18 : Int,∃ x90v19 : Int,∃ x90v20 : Int,∃ x90v21 : Int,∃ x90v22 : Int,∃ x90v23 : Int,∃ x90v24 : Int,∃ x90v25 : Int,∃ x90v26 : Int,∃ x90v27 : Int,∃ x90v28 : Int,∃ x90v29 : Int,∃ x90v30 : Bool,∃ x90v31 : Bool,∃ x90v32 : Int,∃ x90v33 : Int,∃ x90v34 : Int,∃ x90v35 : Int,v45 = (.agg #[(.int .i64 x90v18),(.int .i64 x90v19),(.int .i64 x90v20),(.int .u64 x90v21),(.int .u64 x90v22),(.int .i64 x90v23),(.int .u16 x90v24),(.int .u16 x90v25),(.int .u64 x90v26),(.int .u64 x90v27),(.int .u64 x90v28),(.int .u64 x90v29),(.bool x90v30),(.bool x90v31),(.int .i64 x90v32),(.int .i64 x90v33),(.int .i64 x90v34),(.int .i64 x90v35)]) /\
 (∃ S12 : World -> Prop,(∀ x,S12 x -> S11 x) /\ S12 w36 /\
 (RUNA PG (Instr.alloc 53 true (.tuple #[])) w36 fun a7v2 w37 =>
 ∃ S13 : World -> Prop,(∀ x,S13 x -> S12 x) /\ S13 w37 /\
 (RUNU PG (storeVar 53 a6v2 (.agg #[(.int .i64 x85),(.int .i64 x85v1),(.int .i64 x85v2),(.int .u64 x85v3),(.int .u64 x85v4),(.int .i64 x85v5),(.int .u16 x85v6),(.int .u16 x85v7),(.int .u64 x85v8),(.int .u64 x85v9),(.int .u64 x85v10),(.int .u64 x85v11),(.bool x85v12),(.bool x85v13),(.int .i64 x85v14),(.int .i64 x85v15),(.int .i64 x85v16),(.int .i64 x85v17)])) w37 fun w38 =>
 RUNU PG (storeVar 53 a7v2 (.agg #[(.int .i64 x90v18),(.int .i64 x90v19),(.int .i64 x90v20),(.int .u64 x90v21),(.int .u64 x90v22),(.int .i64 x90v23),(.int .u16 x90v24),(.int .u16 x90v25),(.int .u64 x90v26),(.int .u64 x90v27),(.int .u64 x90v28),(.int .u64 x90v29),(.bool x90v30),(.bool x90v31),(.int .i64 x90v32),(.int .i64 x90v33),(.int .i64 x90v34),(.int .i64 x90v35)])) w38 fun w39 =>
 RDI PG (loadVar 25 (a3.add 0)) .u64 w39 fun x92v2 =>
 RDI PG (loadVar 25 (a3.add 1)) .u64 w39 fun x94v2 =>
 CALL PG 9 [(.int .u64 x92v2),(.int .u64 x94v2)] w39 fun v46 w40 =>
 ∃ x95v18 : Int,∃ x95v19 : Int,∃ x95v20 : Int,∃ x95v21 : Int,∃ x95v22 : Int,∃ x95v23 : Int,∃ x95v24 : Int,∃ x95v25 : Int,∃ x95v26 : Int,v46 = (.agg #[(.int .u64 x95v18),(.int .u64 x95v19),(.int .u64 x95v20),(.int .u64 x95v21),(.int .u64 x95v22),(.int .u64 x95v23),(.int .u64 x95v24),(.int .u64 x95v25),(.int .u32 x95v26)]) /\
 (RUNA PG (Instr.alloc 56 true (.tuple #[])) w40 fun a8v2 w41 =>
 RUNU PG (storeVar 56 a8v2 (.agg #[(.int .u64 x95v18),(.int .u64 x95v19),(.int .u64 x95v20),(.int .u64 x95v21),(.int .u64 x95v22),(.int .u64 x95v23),(.int .u64 x95v24),(.int .u64 x95v25),(.int .u32 x95v26)])) w41 fun w42 =>
 ∃ R2 : Bool -> World -> Prop,
 (∃ S14 : World -> Prop,S14 (w42.drew) /\
 (RDSI PG (loadVar 49 ((a6v2.add 5).add 1)) .u16 S14 fun x98v2 =>
 RDSI PG (loadVar 49 ((a7v2.add 5).add 2)) .u16 S14 fun x101v2 =>
 IFB (x98v2 == x101v2)
 (RDSI PG (loadVar 49 ((a6v2.add 5).add 2)) .u16 S14 fun x106v2 =>
 RDSI PG (loadVar 49 ((a7v2.add 5).add 1)) .u16 S14 fun x109v2 =>
 IFB (x106v2 == x109v2)
 (RDSI PG (loadVar 3 (a6v2.add 15)) .i64 S14 fun x114v2 =>
 IFB (x114v2 == 1)
 (RDSI PG (loadVar 3 (a7v2.add 15)) .i64 S14 fun x119v2 =>
 IFB (x119v2 == 1)
 (NILC x15 fun a124v2 =>
 RDSP PG (loadVar 34 (a124v2.add 0)) S14 fun x126v2 =>
 RDS PG (loadVar 24 a2) S14 fun v47 =>
 ∃ x128v30 : Int,∃ x128v31 : Int,∃ x128v32 : Int,∃ x128v33 : Int,∃ x128v34 : Int,∃ x128v35 : Int,∃ x128v36 : Int,∃ x128v37 : Int,∃ x128v38 : Int,∃ x128v39 : Int,∃ x128v40 : Int,∃ x128v41 : Int,∃ x128v42 : Int,∃ x128v43 : Int,∃ x128v44 : Int,v47 = (.agg #[(.int .i64 x128v30),(.int .i64 x128v31),(.int .i64 x128v32),(.int .i64 x128v33),(.int .i64 x128v34),(.int .i64 x128v35),(.int .i64 x128v36),(.int .i64 x128v37),(.int .i64 x128v38),(.int .i64 x128v39),(.int .i64 x128v40),(.int .i64 x128v41),(.int .i64 x128v42),(.int .i64 x128v43),(.int .i64 x128v44)]) /\
 (CALL PG 10 [(.pointer x126v2)] (w42.drew) fun v48 w43 =>
 ∃ x127v30 : Int,∃ x127v31 : Int,∃ x127v32 : Int,∃ x127v33 : Int,∃ x127v34 : Int,∃ x127v35 : Int,∃ x127v36 : Int,∃ x127v37 : Int,∃ x127v38 : Int,∃ x127v39 : Int,∃ x127v40 : Int,∃ x127v41 : Int,∃ x127v42 : Int,∃ x127v43 : Int,∃ x127v44 : Int,v48 = (.agg #[(.int .i64 x127v30),(.int .i64 x127v31),(.int .i64 x127v32),(.int .i64 x127v33),(.int .i64 x127v34),(.int .i64 x127v35),(.int .i64 x127v36),(.int .i64 x127v37),(.int .i64 x127v38),(.int .i64 x127v39),(.int .i64 x127v40),(.int .i64 x127v41),(.int .i64 x127v42),(.int .i64 x127v43),(.int .i64 x127v44)]) /\
 (∃ S15 : World -> Prop,(∀ x,S15 x -> S14 x) /\ S15 w43 /\
 (RDSB PG (do eqGuard .eql 24 (.tmp 127) (.tmp 128) (.agg #[(.int .i64 x127v30),(.int .i64 x127v31),(.int .i64 x127v32),(.int .i64 x127v33),(.int .i64 x127v34),(.int .i64 x127v35),(.int .i64 x127v36),(.int .i64 x127v37),(.int .i64 x127v38),(.int .i64 x127v39),(.int .i64 x127v40),(.int .i64 x127v41),(.int .i64 x127v42),(.int .i64 x127v43),(.int .i64 x127v44)]) (.agg #[(.int .i64 x128v30),(.int .i64 x128v31),(.int .i64 x128v32),(.int .i64 x128v33),(.int .i64 x128v34),(.int .i64 x128v35),(.int .i64 x128v36),(.int .i64 x128v37),(.int .i64 x128v38),(.int .i64 x128v39),(.int .i64 x128v40),(.int .i64 x128v41),(.int .i64 x128v42),(.int .i64 x128v43),(.int .i64 x128v44)]); binOp .eql 24 (.agg #[(.int .i64 x127v30),(.int .i64 x127v31),(.int .i64 x127v32),(.int .i64 x127v33),(.int .i64 x127v34),(.int .i64 x127v35),(.int .i64 x127v36),(.int .i64 x127v37),(.int .i64 x127v38),(.int .i64 x127v39),(.int .i64 x127v40),(.int .i64 x127v41),(.int .i64 x127v42),(.int .i64 x127v43),(.int .i64 x127v44)]) (.agg #[(.int .i64 x128v30),(.int .i64 x128v31),(.int .i64 x128v32),(.int .i64 x128v33),(.int .i64 x128v34),(.int .i64 x128v35),(.int .i64 x128v36),(.int .i64 x128v37),(.int .i64 x128v38),(.int .i64 x128v39),(.int .i64 x128v40),(.int .i64 x128v41),(.int .i64 x128v42),(.int .i64 x128v43),(.int .i64 x128v44)])) S15 fun x129v2 =>
 LETB x129v2 fun fits12 =>
 R2 fits12 w43))))
 (LETB false fun fits13 =>
 R2 fits13 (w42.drew)))
 (LETB false fun fits14 =>
 R2 fits14 (w42.drew)))
 (LETB false fun fits15 =>
 R2 fits15 (w42.drew)))
 (LETB false fun fits16 =>
 R2 fits16 (w42.drew)))) /\
 (∀ (fits17 : Bool) (w44 : World),R2 fits17 w44 -> (RDI PG (loadVar 39 (a7v2.add 0)) .i64 (w44.drew) fun x132v2 =>
 IFB (x132v2 == 3)
 (RDI PG (loadVar 48 (a6v2.add 2)) .i64 (w44.drew) fun x136v2 =>
 IFB (x136v2 == 1)
 (RDI PG (loadVar 48 (a7v2.add 2)) .i64 (w44.drew) fun x141v2 =>
 IFB (x141v2 == 2)
 (RD PG (loadVar 28 (a6v2.add 3)) (w44.drew) fun v49 =>
 ∃ x146v4 : Int,∃ x146v5 : Int,v49 = (.agg #[(.int .u64 x146v4),(.int .u64 x146v5)]) /\
 (RD PG (loadVar 28 (a8v2.add 0)) (w44.drew) fun v50 =>
 ∃ x148v4 : Int,∃ x148v5 : Int,v50 = (.agg #[(.int .u64 x148v4),(.int .u64 x148v5)]) /\
 (RDB PG (do eqGuard .eql 28 (.tmp 146) (.tmp 148) (.agg #[(.int .u64 x146v4),(.int .u64 x146v5)]) (.agg #[(.int .u64 x148v4),(.int .u64 x148v5)]); binOp .eql 28 (.agg #[(.int .u64 x146v4),(.int .u64 x146v5)]) (.agg #[(.int .u64 x148v4),(.int .u64 x148v5)])) (w44.drew) fun x149v2 =>
 IFB x149v2
 (RD PG (loadVar 28 (a7v2.add 3)) (w44.drew) fun v51 =>
 ∃ x153v4 : Int,∃ x153v5 : Int,v51 = (.agg #[(.int .u64 x153v4),(.int .u64 x153v5)]) /\
 (RD PG (loadVar 28 (a8v2.add 0)) (w44.drew) fun v52 =>
 ∃ x155v4 : Int,∃ x155v5 : Int,v52 = (.agg #[(.int .u64 x155v4),(.int .u64 x155v5)]) /\
 (RDB PG (do eqGuard .eql 28 (.tmp 153) (.tmp 155) (.agg #[(.int .u64 x153v4),(.int .u64 x153v5)]) (.agg #[(.int .u64 x155v4),(.int .u64 x155v5)]); binOp .eql 28 (.agg #[(.int .u64 x153v4),(.int .u64 x153v5)]) (.agg #[(.int .u64 x155v4),(.int .u64 x155v5)])) (w44.drew) fun x156v2 =>
 IFB x156v2
 (NILC x15 fun a160v2 =>
 RDP PG (loadVar 34 (a160v2.add 0)) (w44.drew) fun x162v2 =>
 NILC x162v2 fun a163v2 =>
 RD PG (loadVar 56 (a163v2.add 0)) (w44.drew) fun v53 =>
 ∃ x165v18 : Int,∃ x165v19 : Int,∃ x165v20 : Int,∃ x165v21 : Int,∃ x165v22 : Int,∃ x165v23 : Int,∃ x165v24 : Int,∃ x165v25 : Int,∃ x165v26 : Int,v53 = (.agg #[(.int .u64 x165v18),(.int .u64 x165v19),(.int .u64 x165v20),(.int .u64 x165v21),(.int .u64 x165v22),(.int .u64 x165v23),(.int .u64 x165v24),(.int .u64 x165v25),(.int .u32 x165v26)]) /\
 (RD PG (loadVar 56 a8v2) (w44.drew) fun v54 =>
 ∃ x166v18 : Int,∃ x166v19 : Int,∃ x166v20 : Int,∃ x166v21 : Int,∃ x166v22 : Int,∃ x166v23 : Int,∃ x166v24 : Int,∃ x166v25 : Int,∃ x166v26 : Int,v54 = (.agg #[(.int .u64 x166v18),(.int .u64 x166v19),(.int .u64 x166v20),(.int .u64 x166v21),(.int .u64 x166v22),(.int .u64 x166v23),(.int .u64 x166v24),(.int .u64 x166v25),(.int .u32 x166v26)]) /\
 (RDB PG (do eqGuard .eql 56 (.tmp 165) (.tmp 166) (.agg #[(.int .u64 x165v18),(.int .u64 x165v19),(.int .u64 x165v20),(.int .u64 x165v21),(.int .u64 x165v22),(.int .u64 x165v23),(.int .u64 x165v24),(.int .u64 x165v25),(.int .u32 x165v26)]) (.agg #[(.int .u64 x166v18),(.int .u64 x166v19),(.int .u64 x166v20),(.int .u64 x166v21),(.int .u64 x166v22),(.int .u64 x166v23),(.int .u64 x166v24),(.int .u64 x166v25),(.int .u32 x166v26)]); binOp .eql 56 (.agg #[(.int .u64 x165v18),(.int .u64 x165v19),(.int .u64 x165v20),(.int .u64 x165v21),(.int .u64 x165v22),(.int .u64 x165v23),(.int .u64 x165v24),(.int .u64 x165v25),(.int .u32 x165v26)]) (.agg #[(.int .u64 x166v18),(.int .u64 x166v19),(.int .u64 x166v20),(.int .u64 x166v21),(.int .u64 x166v22),(.int .u64 x166v23),(.int .u64 x166v24),(.int .u64 x166v25),(.int .u32 x166v26)])) (w44.drew) fun x167v2 =>
 IFB x167v2
 (NILC x15 fun a171v2 =>
 RDP PG (loadVar 34 (a171v2.add 1)) (w44.drew) fun x173v2 =>
 NILC x173v2 fun a174v2 =>
 RD PG (loadVar 56 (a174v2.add 0)) (w44.drew) fun v55 =>
 ∃ x176v18 : Int,∃ x176v19 : Int,∃ x176v20 : Int,∃ x176v21 : Int,∃ x176v22 : Int,∃ x176v23 : Int,∃ x176v24 : Int,∃ x176v25 : Int,∃ x176v26 : Int,v55 = (.agg #[(.int .u64 x176v18),(.int .u64 x176v19),(.int .u64 x176v20),(.int .u64 x176v21),(.int .u64 x176v22),(.int .u64 x176v23),(.int .u64 x176v24),(.int .u64 x176v25),(.int .u32 x176v26)]) /\
 (RD PG (loadVar 56 a8v2) (w44.drew) fun v56 =>
 ∃ x177v18 : Int,∃ x177v19 : Int,∃ x177v20 : Int,∃ x177v21 : Int,∃ x177v22 : Int,∃ x177v23 : Int,∃ x177v24 : Int,∃ x177v25 : Int,∃ x177v26 : Int,v56 = (.agg #[(.int .u64 x177v18),(.int .u64 x177v19),(.int .u64 x177v20),(.int .u64 x177v21),(.int .u64 x177v22),(.int .u64 x177v23),(.int .u64 x177v24),(.int .u64 x177v25),(.int .u32 x177v26)]) /\
 (RDB PG (do eqGuard .eql 56 (.tmp 176) (.tmp 177) (.agg #[(.int .u64 x176v18),(.int .u64 x176v19),(.int .u64 x176v20),(.int .u64 x176v21),(.int .u64 x176v22),(.int .u64 x176v23),(.int .u64 x176v24),(.int .u64 x176v25),(.int .u32 x176v26)]) (.agg #[(.int .u64 x177v18),(.int .u64 x177v19),(.int .u64 x177v20),(.int .u64 x177v21),(.int .u64 x177v22),(.int .u64 x177v23),(.int .u64 x177v24),(.int .u64 x177v25),(.int .u32 x177v26)]); binOp .eql 56 (.agg #[(.int .u64 x176v18),(.int .u64 x176v19),(.int .u64 x176v20),(.int .u64 x176v21),(.int .u64 x176v22),(.int .u64 x176v23),(.int .u64 x176v24),(.int .u64 x176v25),(.int .u32 x176v26)]) (.agg #[(.int .u64 x177v18),(.int .u64 x177v19),(.int .u64 x177v20),(.int .u64 x177v21),(.int .u64 x177v22),(.int .u64 x177v23),(.int .u64 x177v24),(.int .u64 x177v25),(.int .u32 x177v26)])) (w44.drew) fun x178v2 =>
 IFB x178v2
 (IFB fits17
 (NILC x15 fun a185v2 =>
 RDP PG (loadVar 34 (a185v2.add 0)) (w44.drew) fun x187v2 =>
 CALL PG 11 [(.pointer x187v2)] (w44.drew) fun v57 w45 =>
 ∃ (x188v2 : Option Addr) (x188N2 x188C2 : Nat),v57 = (.slice x188v2 x188N2 x188C2) /\
 (IFB ((x188N2 : Int) == 1)
 (CALL PG 12 [] w45 fun v58 w46 =>
 ∃ x193v2 : Bool,v58 = (.bool x193v2) /\
 (LETB x193v2 fun x4v21 =>
 Q (.bool x4v21) w46))
 (LETB false fun x4v22 =>
 Q (.bool x4v22) w45)))
 (LETB false fun x4v23 =>
 Q (.bool x4v23) (w44.drew)))
 (LETB false fun x4v24 =>
 Q (.bool x4v24) (w44.drew)))))
 (LETB false fun x4v25 =>
 Q (.bool x4v25) (w44.drew)))))
 (LETB false fun x4v26 =>
 Q (.bool x4v26) (w44.drew)))))
 (LETB false fun x4v27 =>
 Q (.bool x4v27) (w44.drew)))))
 (LETB false fun x4v28 =>
 Q (.bool x4v28) (w44.drew)))
 (LETB false fun x4v29 =>
 Q (.bool x4v29) (w44.drew)))
 (LETB false fun x4v30 =>
 Q (.bool x4v30) (w44.drew))))))))) /\
 (RUNA PG (Instr.alloc 53 true (.tuple #[])) w35 fun a7v3 w47 =>
 ∃ S16 : World -> Prop,(∀ x,S16 x -> S11 x) /\ S16 w47 /\
 (CALL PG 8 [(.pointer x89)] w47 fun v59 w48 =>
 ∃ x90v36 : Int,∃ x90v37 : Int,∃ x90v38 : Int,∃ x90v39 : Int,∃ x90v40 : Int,∃ x90v41 : Int,∃ x90v42 : Int,∃ x90v43 : Int,∃ x90v44 : Int,∃ x90v45 : Int,∃ x90v46 : Int,∃ x90v47 : Int,∃ x90v48 : Bool,∃ x90v49 : Bool,∃ x90v50 : Int,∃ x90v51 : Int,∃ x90v52 : Int,∃ x90v53 : Int,v59 = (.agg #[(.int .i64 x90v36),(.int .i64 x90v37),(.int .i64 x90v38),(.int .u64 x90v39),(.int .u64 x90v40),(.int .i64 x90v41),(.int .u16 x90v42),(.int .u16 x90v43),(.int .u64 x90v44),(.int .u64 x90v45),(.int .u64 x90v46),(.int .u64 x90v47),(.bool x90v48),(.bool x90v49),(.int .i64 x90v50),(.int .i64 x90v51),(.int .i64 x90v52),(.int .i64 x90v53)]) /\
 (RUNU PG (storeVar 53 a6v2 (.agg #[(.int .i64 x85),(.int .i64 x85v1),(.int .i64 x85v2),(.int .u64 x85v3),(.int .u64 x85v4),(.int .i64 x85v5),(.int .u16 x85v6),(.int .u16 x85v7),(.int .u64 x85v8),(.int .u64 x85v9),(.int .u64 x85v10),(.int .u64 x85v11),(.bool x85v12),(.bool x85v13),(.int .i64 x85v14),(.int .i64 x85v15),(.int .i64 x85v16),(.int .i64 x85v17)])) w48 fun w49 =>
 RUNU PG (storeVar 53 a7v3 (.agg #[(.int .i64 x90v36),(.int .i64 x90v37),(.int .i64 x90v38),(.int .u64 x90v39),(.int .u64 x90v40),(.int .i64 x90v41),(.int .u16 x90v42),(.int .u16 x90v43),(.int .u64 x90v44),(.int .u64 x90v45),(.int .u64 x90v46),(.int .u64 x90v47),(.bool x90v48),(.bool x90v49),(.int .i64 x90v50),(.int .i64 x90v51),(.int .i64 x90v52),(.int .i64 x90v53)])) w49 fun w50 =>
 RDI PG (loadVar 25 (a3.add 0)) .u64 w50 fun x92v3 =>
 RDI PG (loadVar 25 (a3.add 1)) .u64 w50 fun x94v3 =>
 CALL PG 9 [(.int .u64 x92v3),(.int .u64 x94v3)] w50 fun v60 w51 =>
 ∃ x95v27 : Int,∃ x95v28 : Int,∃ x95v29 : Int,∃ x95v30 : Int,∃ x95v31 : Int,∃ x95v32 : Int,∃ x95v33 : Int,∃ x95v34 : Int,∃ x95v35 : Int,v60 = (.agg #[(.int .u64 x95v27),(.int .u64 x95v28),(.int .u64 x95v29),(.int .u64 x95v30),(.int .u64 x95v31),(.int .u64 x95v32),(.int .u64 x95v33),(.int .u64 x95v34),(.int .u32 x95v35)]) /\
 (RUNA PG (Instr.alloc 56 true (.tuple #[])) w51 fun a8v3 w52 =>
 RUNU PG (storeVar 56 a8v3 (.agg #[(.int .u64 x95v27),(.int .u64 x95v28),(.int .u64 x95v29),(.int .u64 x95v30),(.int .u64 x95v31),(.int .u64 x95v32),(.int .u64 x95v33),(.int .u64 x95v34),(.int .u32 x95v35)])) w52 fun w53 =>
 ∃ R3 : Bool -> World -> Prop,
 (∃ S17 : World -> Prop,S17 (w53.drew) /\
 (RDSI PG (loadVar 49 ((a6v2.add 5).add 1)) .u16 S17 fun x98v3 =>
 RDSI PG (loadVar 49 ((a7v3.add 5).add 2)) .u16 S17 fun x101v3 =>
 IFB (x98v3 == x101v3)
 (RDSI PG (loadVar 49 ((a6v2.add 5).add 2)) .u16 S17 fun x106v3 =>
 RDSI PG (loadVar 49 ((a7v3.add 5).add 1)) .u16 S17 fun x109v3 =>
 IFB (x106v3 == x109v3)
 (RDSI PG (loadVar 3 (a6v2.add 15)) .i64 S17 fun x114v3 =>
 IFB (x114v3 == 1)
 (RDSI PG (loadVar 3 (a7v3.add 15)) .i64 S17 fun x119v3 =>
 IFB (x119v3 == 1)
 (NILC x15 fun a124v3 =>
 RDSP PG (loadVar 34 (a124v3.add 0)) S17 fun x126v3 =>
 RDS PG (loadVar 24 a2) S17 fun v61 =>
 ∃ x128v45 : Int,∃ x128v46 : Int,∃ x128v47 : Int,∃ x128v48 : Int,∃ x128v49 : Int,∃ x128v50 : Int,∃ x128v51 : Int,∃ x128v52 : Int,∃ x128v53 : Int,∃ x128v54 : Int,∃ x128v55 : Int,∃ x128v56 : Int,∃ x128v57 : Int,∃ x128v58 : Int,∃ x128v59 : Int,v61 = (.agg #[(.int .i64 x128v45),(.int .i64 x128v46),(.int .i64 x128v47),(.int .i64 x128v48),(.int .i64 x128v49),(.int .i64 x128v50),(.int .i64 x128v51),(.int .i64 x128v52),(.int .i64 x128v53),(.int .i64 x128v54),(.int .i64 x128v55),(.int .i64 x128v56),(.int .i64 x128v57),(.int .i64 x128v58),(.int .i64 x128v59)]) /\
 (CALL PG 10 [(.pointer x126v3)] (w53.drew) fun v62 w54 =>
 ∃ x127v45 : Int,∃ x127v46 : Int,∃ x127v47 : Int,∃ x127v48 : Int,∃ x127v49 : Int,∃ x127v50 : Int,∃ x127v51 : Int,∃ x127v52 : Int,∃ x127v53 : Int,∃ x127v54 : Int,∃ x127v55 : Int,∃ x127v56 : Int,∃ x127v57 : Int,∃ x127v58 : Int,∃ x127v59 : Int,v62 = (.agg #[(.int .i64 x127v45),(.int .i64 x127v46),(.int .i64 x127v47),(.int .i64 x127v48),(.int .i64 x127v49),(.int .i64 x127v50),(.int .i64 x127v51),(.int .i64 x127v52),(.int .i64 x127v53),(.int .i64 x127v54),(.int .i64 x127v55),(.int .i64 x127v56),(.int .i64 x127v57),(.int .i64 x127v58),(.int .i64 x127v59)]) /\
 (∃ S18 : World -> Prop,(∀ x,S18 x -> S17 x) /\ S18 w54 /\
 (RDSB PG (do eqGuard .eql 24 (.tmp 127) (.tmp 128) (.agg #[(.int .i64 x127v45),(.int .i64 x127v46),(.int .i64 x127v47),(.int .i64 x127v48),(.int .i64 x127v49),(.int .i64 x127v50),(.int .i64 x127v51),(.int .i64 x127v52),(.int .i64 x127v53),(.int .i64 x127v54),(.int .i64 x127v55),(.int .i64 x127v56),(.int .i64 x127v57),(.int .i64 x127v58),(.int .i64 x127v59)]) (.agg #[(.int .i64 x128v45),(.int .i64 x128v46),(.int .i64 x128v47),(.int .i64 x128v48),(.int .i64 x128v49),(.int .i64 x128v50),(.int .i64 x128v51),(.int .i64 x128v52),(.int .i64 x128v53),(.int .i64 x128v54),(.int .i64 x128v55),(.int .i64 x128v56),(.int .i64 x128v57),(.int .i64 x128v58),(.int .i64 x128v59)]); binOp .eql 24 (.agg #[(.int .i64 x127v45),(.int .i64 x127v46),(.int .i64 x127v47),(.int .i64 x127v48),(.int .i64 x127v49),(.int .i64 x127v50),(.int .i64 x127v51),(.int .i64 x127v52),(.int .i64 x127v53),(.int .i64 x127v54),(.int .i64 x127v55),(.int .i64 x127v56),(.int .i64 x127v57),(.int .i64 x127v58),(.int .i64 x127v59)]) (.agg #[(.int .i64 x128v45),(.int .i64 x128v46),(.int .i64 x128v47),(.int .i64 x128v48),(.int .i64 x128v49),(.int .i64 x128v50),(.int .i64 x128v51),(.int .i64 x128v52),(.int .i64 x128v53),(.int .i64 x128v54),(.int .i64 x128v55),(.int .i64 x128v56),(.int .i64 x128v57),(.int .i64 x128v58),(.int .i64 x128v59)])) S18 fun x129v3 =>
 LETB x129v3 fun fits18 =>
 R3 fits18 w54))))
 (LETB false fun fits19 =>
 R3 fits19 (w53.drew)))
 (LETB false fun fits20 =>
 R3 fits20 (w53.drew)))
 (LETB false fun fits21 =>
 R3 fits21 (w53.drew)))
 (LETB false fun fits22 =>
 R3 fits22 (w53.drew)))) /\
 (∀ (fits23 : Bool) (w55 : World),R3 fits23 w55 -> (RDI PG (loadVar 39 (a7v3.add 0)) .i64 (w55.drew) fun x132v3 =>
 IFB (x132v3 == 3)
 (RDI PG (loadVar 48 (a6v2.add 2)) .i64 (w55.drew) fun x136v3 =>
 IFB (x136v3 == 1)
 (RDI PG (loadVar 48 (a7v3.add 2)) .i64 (w55.drew) fun x141v3 =>
 IFB (x141v3 == 2)
 (RD PG (loadVar 28 (a6v2.add 3)) (w55.drew) fun v63 =>
 ∃ x146v6 : Int,∃ x146v7 : Int,v63 = (.agg #[(.int .u64 x146v6),(.int .u64 x146v7)]) /\
 (RD PG (loadVar 28 (a8v3.add 0)) (w55.drew) fun v64 =>
 ∃ x148v6 : Int,∃ x148v7 : Int,v64 = (.agg #[(.int .u64 x148v6),(.int .u64 x148v7)]) /\
 (RDB PG (do eqGuard .eql 28 (.tmp 146) (.tmp 148) (.agg #[(.int .u64 x146v6),(.int .u64 x146v7)]) (.agg #[(.int .u64 x148v6),(.int .u64 x148v7)]); binOp .eql 28 (.agg #[(.int .u64 x146v6),(.int .u64 x146v7)]) (.agg #[(.int .u64 x148v6),(.int .u64 x148v7)])) (w55.drew) fun x149v3 =>
 IFB x149v3
 (RD PG (loadVar 28 (a7v3.add 3)) (w55.drew) fun v65 =>
 ∃ x153v6 : Int,∃ x153v7 : Int,v65 = (.agg #[(.int .u64 x153v6),(.int .u64 x153v7)]) /\
 (RD PG (loadVar 28 (a8v3.add 0)) (w55.drew) fun v66 =>
 ∃ x155v6 : Int,∃ x155v7 : Int,v66 = (.agg #[(.int .u64 x155v6),(.int .u64 x155v7)]) /\
 (RDB PG (do eqGuard .eql 28 (.tmp 153) (.tmp 155) (.agg #[(.int .u64 x153v6),(.int .u64 x153v7)]) (.agg #[(.int .u64 x155v6),(.int .u64 x155v7)]); binOp .eql 28 (.agg #[(.int .u64 x153v6),(.int .u64 x153v7)]) (.agg #[(.int .u64 x155v6),(.int .u64 x155v7)])) (w55.drew) fun x156v3 =>
 IFB x156v3
 (NILC x15 fun a160v3 =>
 RDP PG (loadVar 34 (a160v3.add 0)) (w55.drew) fun x162v3 =>
 NILC x162v3 fun a163v3 =>
 RD PG (loadVar 56 (a163v3.add 0)) (w55.drew) fun v67 =>
 ∃ x165v27 : Int,∃ x165v28 : Int,∃ x165v29 : Int,∃ x165v30 : Int,∃ x165v31 : Int,∃ x165v32 : Int,∃ x165v33 : Int,∃ x165v34 : Int,∃ x165v35 : Int,v67 = (.agg #[(.int .u64 x165v27),(.int .u64 x165v28),(.int .u64 x165v29),(.int .u64 x165v30),(.int .u64 x165v31),(.int .u64 x165v32),(.int .u64 x165v33),(.int .u64 x165v34),(.int .u32 x165v35)]) /\
 (RD PG (loadVar 56 a8v3) (w55.drew) fun v68 =>
 ∃ x166v27 : Int,∃ x166v28 : Int,∃ x166v29 : Int,∃ x166v30 : Int,∃ x166v31 : Int,∃ x166v32 : Int,∃ x166v33 : Int,∃ x166v34 : Int,∃ x166v35 : Int,v68 = (.agg #[(.int .u64 x166v27),(.int .u64 x166v28),(.int .u64 x166v29),(.int .u64 x166v30),(.int .u64 x166v31),(.int .u64 x166v32),(.int .u64 x166v33),(.int .u64 x166v34),(.int .u32 x166v35)]) /\
 (RDB PG (do eqGuard .eql 56 (.tmp 165) (.tmp 166) (.agg #[(.int .u64 x165v27),(.int .u64 x165v28),(.int .u64 x165v29),(.int .u64 x165v30),(.int .u64 x165v31),(.int .u64 x165v32),(.int .u64 x165v33),(.int .u64 x165v34),(.int .u32 x165v35)]) (.agg #[(.int .u64 x166v27),(.int .u64 x166v28),(.int .u64 x166v29),(.int .u64 x166v30),(.int .u64 x166v31),(.int .u64 x166v32),(.int .u64 x166v33),(.int .u64 x166v34),(.int .u32 x166v35)]); binOp .eql 56 (.agg #[(.int .u64 x165v27),(.int .u64 x165v28),(.int .u64 x165v29),(.int .u64 x165v30),(.int .u64 x165v31),(.int .u64 x165v32),(.int .u64 x165v33),(.int .u64 x165v34),(.int .u32 x165v35)]) (.agg #[(.int .u64 x166v27),(.int .u64 x166v28),(.int .u64 x166v29),(.int .u64 x166v30),(.int .u64 x166v31),(.int .u64 x166v32),(.int .u64 x166v33),(.int .u64 x166v34),(.int .u32 x166v35)])) (w55.drew) fun x167v3 =>
 IFB x167v3
 (NILC x15 fun a171v3 =>
 RDP PG (loadVar 34 (a171v3.add 1)) (w55.drew) fun x173v3 =>
 NILC x173v3 fun a174v3 =>
 RD PG (loadVar 56 (a174v3.add 0)) (w55.drew) fun v69 =>
 ∃ x176v27 : Int,∃ x176v28 : Int,∃ x176v29 : Int,∃ x176v30 : Int,∃ x176v31 : Int,∃ x176v32 : Int,∃ x176v33 : Int,∃ x176v34 : Int,∃ x176v35 : Int,v69 = (.agg #[(.int .u64 x176v27),(.int .u64 x176v28),(.int .u64 x176v29),(.int .u64 x176v30),(.int .u64 x176v31),(.int .u64 x176v32),(.int .u64 x176v33),(.int .u64 x176v34),(.int .u32 x176v35)]) /\
 (RD PG (loadVar 56 a8v3) (w55.drew) fun v70 =>
 ∃ x177v27 : Int,∃ x177v28 : Int,∃ x177v29 : Int,∃ x177v30 : Int,∃ x177v31 : Int,∃ x177v32 : Int,∃ x177v33 : Int,∃ x177v34 : Int,∃ x177v35 : Int,v70 = (.agg #[(.int .u64 x177v27),(.int .u64 x177v28),(.int .u64 x177v29),(.int .u64 x177v30),(.int .u64 x177v31),(.int .u64 x177v32),(.int .u64 x177v33),(.int .u64 x177v34),(.int .u32 x177v35)]) /\
 (RDB PG (do eqGuard .eql 56 (.tmp 176) (.tmp 177) (.agg #[(.int .u64 x176v27),(.int .u64 x176v28),(.int .u64 x176v29),(.int .u64 x176v30),(.int .u64 x176v31),(.int .u64 x176v32),(.int .u64 x176v33),(.int .u64 x176v34),(.int .u32 x176v35)]) (.agg #[(.int .u64 x177v27),(.int .u64 x177v28),(.int .u64 x177v29),(.int .u64 x177v30),(.int .u64 x177v31),(.int .u64 x177v32),(.int .u64 x177v33),(.int .u64 x177v34),(.int .u32 x177v35)]); binOp .eql 56 (.agg #[(.int .u64 x176v27),(.int .u64 x176v28),(.int .u64 x176v29),(.int .u64 x176v30),(.int .u64 x176v31),(.int .u64 x176v32),(.int .u64 x176v33),(.int .u64 x176v34),(.int .u32 x176v35)]) (.agg #[(.int .u64 x177v27),(.int .u64 x177v28),(.int .u64 x177v29),(.int .u64 x177v30),(.int .u64 x177v31),(.int .u64 x177v32),(.int .u64 x177v33),(.int .u64 x177v34),(.int .u32 x177v35)])) (w55.drew) fun x178v3 =>
 IFB x178v3
 (IFB fits23
 (NILC x15 fun a185v3 =>
 RDP PG (loadVar 34 (a185v3.add 0)) (w55.drew) fun x187v3 =>
 CALL PG 11 [(.pointer x187v3)] (w55.drew) fun v71 w56 =>
 ∃ (x188v3 : Option Addr) (x188N3 x188C3 : Nat),v71 = (.slice x188v3 x188N3 x188C3) /\
 (IFB ((x188N3 : Int) == 1)
 (CALL PG 12 [] w56 fun v72 w57 =>
 ∃ x193v3 : Bool,v72 = (.bool x193v3) /\
 (LETB x193v3 fun x4v31 =>
 Q (.bool x4v31) w57))
 (LETB false fun x4v32 =>
 Q (.bool x4v32) w56)))
 (LETB false fun x4v33 =>
 Q (.bool x4v33) (w55.drew)))
 (LETB false fun x4v34 =>
 Q (.bool x4v34) (w55.drew)))))
 (LETB false fun x4v35 =>
 Q (.bool x4v35) (w55.drew)))))
 (LETB false fun x4v36 =>
 Q (.bool x4v36) (w55.drew)))))
 (LETB false fun x4v37 =>
 Q (.bool x4v37) (w55.drew)))))
 (LETB false fun x4v38 =>
 Q (.bool x4v38) (w55.drew)))
 (LETB false fun x4v39 =>
 Q (.bool x4v39) (w55.drew)))
 (LETB false fun x4v40 =>
 Q (.bool x4v40) (w55.drew)))))))))) /\
 (RUNA PG (Instr.alloc 53 true (.tuple #[])) w11 fun a7v4 w58 =>
 ∃ S19 : World -> Prop,(∀ x,S19 x -> S1 x) /\ S19 w58 /\
 ((CALL PG 8 [(.pointer x89)] w58 fun v73 w59 =>
 ∃ x90v54 : Int,∃ x90v55 : Int,∃ x90v56 : Int,∃ x90v57 : Int,∃ x90v58 : Int,∃ x90v59 : Int,∃ x90v60 : Int,∃ x90v61 : Int,∃ x90v62 : Int,∃ x90v63 : Int,∃ x90v64 : Int,∃ x90v65 : Int,∃ x90v66 : Bool,∃ x90v67 : Bool,∃ x90v68 : Int,∃ x90v69 : Int,∃ x90v70 : Int,∃ x90v71 : Int,v73 = (.agg #[(.int .i64 x90v54),(.int .i64 x90v55),(.int .i64 x90v56),(.int .u64 x90v57),(.int .u64 x90v58),(.int .i64 x90v59),(.int .u16 x90v60),(.int .u16 x90v61),(.int .u64 x90v62),(.int .u64 x90v63),(.int .u64 x90v64),(.int .u64 x90v65),(.bool x90v66),(.bool x90v67),(.int .i64 x90v68),(.int .i64 x90v69),(.int .i64 x90v70),(.int .i64 x90v71)]) /\
 (∃ S20 : World -> Prop,(∀ x,S20 x -> S19 x) /\ S20 w59 /\
 (RUNA PG (Instr.alloc 53 true (.tuple #[])) w59 fun a6v3 w60 =>
 ∃ S21 : World -> Prop,(∀ x,S21 x -> S20 x) /\ S21 w60 /\
 (RUNU PG (storeVar 53 a6v3 (.agg #[(.int .i64 x85),(.int .i64 x85v1),(.int .i64 x85v2),(.int .u64 x85v3),(.int .u64 x85v4),(.int .i64 x85v5),(.int .u16 x85v6),(.int .u16 x85v7),(.int .u64 x85v8),(.int .u64 x85v9),(.int .u64 x85v10),(.int .u64 x85v11),(.bool x85v12),(.bool x85v13),(.int .i64 x85v14),(.int .i64 x85v15),(.int .i64 x85v16),(.int .i64 x85v17)])) w60 fun w61 =>
 RUNU PG (storeVar 53 a7v4 (.agg #[(.int .i64 x90v54),(.int .i64 x90v55),(.int .i64 x90v56),(.int .u64 x90v57),(.int .u64 x90v58),(.int .i64 x90v59),(.int .u16 x90v60),(.int .u16 x90v61),(.int .u64 x90v62),(.int .u64 x90v63),(.int .u64 x90v64),(.int .u64 x90v65),(.bool x90v66),(.bool x90v67),(.int .i64 x90v68),(.int .i64 x90v69),(.int .i64 x90v70),(.int .i64 x90v71)])) w61 fun w62 =>
 RDI PG (loadVar 25 (a3.add 0)) .u64 w62 fun x92v4 =>
 RDI PG (loadVar 25 (a3.add 1)) .u64 w62 fun x94v4 =>
 CALL PG 9 [(.int .u64 x92v4),(.int .u64 x94v4)] w62 fun v74 w63 =>
 ∃ x95v36 : Int,∃ x95v37 : Int,∃ x95v38 : Int,∃ x95v39 : Int,∃ x95v40 : Int,∃ x95v41 : Int,∃ x95v42 : Int,∃ x95v43 : Int,∃ x95v44 : Int,v74 = (.agg #[(.int .u64 x95v36),(.int .u64 x95v37),(.int .u64 x95v38),(.int .u64 x95v39),(.int .u64 x95v40),(.int .u64 x95v41),(.int .u64 x95v42),(.int .u64 x95v43),(.int .u32 x95v44)]) /\
 (RUNA PG (Instr.alloc 56 true (.tuple #[])) w63 fun a8v4 w64 =>
 RUNU PG (storeVar 56 a8v4 (.agg #[(.int .u64 x95v36),(.int .u64 x95v37),(.int .u64 x95v38),(.int .u64 x95v39),(.int .u64 x95v40),(.int .u64 x95v41),(.int .u64 x95v42),(.int .u64 x95v43),(.int .u32 x95v44)])) w64 fun w65 =>
 ∃ R4 : Bool -> World -> Prop,
 (∃ S22 : World -> Prop,S22 (w65.drew) /\
 (RDSI PG (loadVar 49 ((a6v3.add 5).add 1)) .u16 S22 fun x98v4 =>
 RDSI PG (loadVar 49 ((a7v4.add 5).add 2)) .u16 S22 fun x101v4 =>
 IFB (x98v4 == x101v4)
 (RDSI PG (loadVar 49 ((a6v3.add 5).add 2)) .u16 S22 fun x106v4 =>
 RDSI PG (loadVar 49 ((a7v4.add 5).add 1)) .u16 S22 fun x109v4 =>
 IFB (x106v4 == x109v4)
 (RDSI PG (loadVar 3 (a6v3.add 15)) .i64 S22 fun x114v4 =>
 IFB (x114v4 == 1)
 (RDSI PG (loadVar 3 (a7v4.add 15)) .i64 S22 fun x119v4 =>
 IFB (x119v4 == 1)
 (NILC x15 fun a124v4 =>
 RDSP PG (loadVar 34 (a124v4.add 0)) S22 fun x126v4 =>
 RDS PG (loadVar 24 a2) S22 fun v75 =>
 ∃ x128v60 : Int,∃ x128v61 : Int,∃ x128v62 : Int,∃ x128v63 : Int,∃ x128v64 : Int,∃ x128v65 : Int,∃ x128v66 : Int,∃ x128v67 : Int,∃ x128v68 : Int,∃ x128v69 : Int,∃ x128v70 : Int,∃ x128v71 : Int,∃ x128v72 : Int,∃ x128v73 : Int,∃ x128v74 : Int,v75 = (.agg #[(.int .i64 x128v60),(.int .i64 x128v61),(.int .i64 x128v62),(.int .i64 x128v63),(.int .i64 x128v64),(.int .i64 x128v65),(.int .i64 x128v66),(.int .i64 x128v67),(.int .i64 x128v68),(.int .i64 x128v69),(.int .i64 x128v70),(.int .i64 x128v71),(.int .i64 x128v72),(.int .i64 x128v73),(.int .i64 x128v74)]) /\
 (CALL PG 10 [(.pointer x126v4)] (w65.drew) fun v76 w66 =>
 ∃ x127v60 : Int,∃ x127v61 : Int,∃ x127v62 : Int,∃ x127v63 : Int,∃ x127v64 : Int,∃ x127v65 : Int,∃ x127v66 : Int,∃ x127v67 : Int,∃ x127v68 : Int,∃ x127v69 : Int,∃ x127v70 : Int,∃ x127v71 : Int,∃ x127v72 : Int,∃ x127v73 : Int,∃ x127v74 : Int,v76 = (.agg #[(.int .i64 x127v60),(.int .i64 x127v61),(.int .i64 x127v62),(.int .i64 x127v63),(.int .i64 x127v64),(.int .i64 x127v65),(.int .i64 x127v66),(.int .i64 x127v67),(.int .i64 x127v68),(.int .i64 x127v69),(.int .i64 x127v70),(.int .i64 x127v71),(.int .i64 x127v72),(.int .i64 x127v73),(.int .i64 x127v74)]) /\
 (∃ S23 : World -> Prop,(∀ x,S23 x -> S22 x) /\ S23 w66 /\
 (RDSB PG (do eqGuard .eql 24 (.tmp 127) (.tmp 128) (.agg #[(.int .i64 x127v60),(.int .i64 x127v61),(.int .i64 x127v62),(.int .i64 x127v63),(.int .i64 x127v64),(.int .i64 x127v65),(.int .i64 x127v66),(.int .i64 x127v67),(.int .i64 x127v68),(.int .i64 x127v69),(.int .i64 x127v70),(.int .i64 x127v71),(.int .i64 x127v72),(.int .i64 x127v73),(.int .i64 x127v74)]) (.agg #[(.int .i64 x128v60),(.int .i64 x128v61),(.int .i64 x128v62),(.int .i64 x128v63),(.int .i64 x128v64),(.int .i64 x128v65),(.int .i64 x128v66),(.int .i64 x128v67),(.int .i64 x128v68),(.int .i64 x128v69),(.int .i64 x128v70),(.int .i64 x128v71),(.int .i64 x128v72),(.int .i64 x128v73),(.int .i64 x128v74)]); binOp .eql 24 (.agg #[(.int .i64 x127v60),(.int .i64 x127v61),(.int .i64 x127v62),(.int .i64 x127v63),(.int .i64 x127v64),(.int .i64 x127v65),(.int .i64 x127v66),(.int .i64 x127v67),(.int .i64 x127v68),(.int .i64 x127v69),(.int .i64 x127v70),(.int .i64 x127v71),(.int .i64 x127v72),(.int .i64 x127v73),(.int .i64 x127v74)]) (.agg #[(.int .i64 x128v60),(.int .i64 x128v61),(.int .i64 x128v62),(.int .i64 x128v63),(.int .i64 x128v64),(.int .i64 x128v65),(.int .i64 x128v66),(.int .i64 x128v67),(.int .i64 x128v68),(.int .i64 x128v69),(.int .i64 x128v70),(.int .i64 x128v71),(.int .i64 x128v72),(.int .i64 x128v73),(.int .i64 x128v74)])) S23 fun x129v4 =>
 LETB x129v4 fun fits24 =>
 R4 fits24 w66))))
 (LETB false fun fits25 =>
 R4 fits25 (w65.drew)))
 (LETB false fun fits26 =>
 R4 fits26 (w65.drew)))
 (LETB false fun fits27 =>
 R4 fits27 (w65.drew)))
 (LETB false fun fits28 =>
 R4 fits28 (w65.drew)))) /\
 (∀ (fits29 : Bool) (w67 : World),R4 fits29 w67 -> (RDI PG (loadVar 39 (a7v4.add 0)) .i64 (w67.drew) fun x132v4 =>
 IFB (x132v4 == 3)
 (RDI PG (loadVar 48 (a6v3.add 2)) .i64 (w67.drew) fun x136v4 =>
 IFB (x136v4 == 1)
 (RDI PG (loadVar 48 (a7v4.add 2)) .i64 (w67.drew) fun x141v4 =>
 IFB (x141v4 == 2)
 (RD PG (loadVar 28 (a6v3.add 3)) (w67.drew) fun v77 =>
 ∃ x146v8 : Int,∃ x146v9 : Int,v77 = (.agg #[(.int .u64 x146v8),(.int .u64 x146v9)]) /\
 (RD PG (loadVar 28 (a8v4.add 0)) (w67.drew) fun v78 =>
 ∃ x148v8 : Int,∃ x148v9 : Int,v78 = (.agg #[(.int .u64 x148v8),(.int .u64 x148v9)]) /\
 (RDB PG (do eqGuard .eql 28 (.tmp 146) (.tmp 148) (.agg #[(.int .u64 x146v8),(.int .u64 x146v9)]) (.agg #[(.int .u64 x148v8),(.int .u64 x148v9)]); binOp .eql 28 (.agg #[(.int .u64 x146v8),(.int .u64 x146v9)]) (.agg #[(.int .u64 x148v8),(.int .u64 x148v9)])) (w67.drew) fun x149v4 =>
 IFB x149v4
 (RD PG (loadVar 28 (a7v4.add 3)) (w67.drew) fun v79 =>
 ∃ x153v8 : Int,∃ x153v9 : Int,v79 = (.agg #[(.int .u64 x153v8),(.int .u64 x153v9)]) /\
 (RD PG (loadVar 28 (a8v4.add 0)) (w67.drew) fun v80 =>
 ∃ x155v8 : Int,∃ x155v9 : Int,v80 = (.agg #[(.int .u64 x155v8),(.int .u64 x155v9)]) /\
 (RDB PG (do eqGuard .eql 28 (.tmp 153) (.tmp 155) (.agg #[(.int .u64 x153v8),(.int .u64 x153v9)]) (.agg #[(.int .u64 x155v8),(.int .u64 x155v9)]); binOp .eql 28 (.agg #[(.int .u64 x153v8),(.int .u64 x153v9)]) (.agg #[(.int .u64 x155v8),(.int .u64 x155v9)])) (w67.drew) fun x156v4 =>
 IFB x156v4
 (NILC x15 fun a160v4 =>
 RDP PG (loadVar 34 (a160v4.add 0)) (w67.drew) fun x162v4 =>
 NILC x162v4 fun a163v4 =>
 RD PG (loadVar 56 (a163v4.add 0)) (w67.drew) fun v81 =>
 ∃ x165v36 : Int,∃ x165v37 : Int,∃ x165v38 : Int,∃ x165v39 : Int,∃ x165v40 : Int,∃ x165v41 : Int,∃ x165v42 : Int,∃ x165v43 : Int,∃ x165v44 : Int,v81 = (.agg #[(.int .u64 x165v36),(.int .u64 x165v37),(.int .u64 x165v38),(.int .u64 x165v39),(.int .u64 x165v40),(.int .u64 x165v41),(.int .u64 x165v42),(.int .u64 x165v43),(.int .u32 x165v44)]) /\
 (RD PG (loadVar 56 a8v4) (w67.drew) fun v82 =>
 ∃ x166v36 : Int,∃ x166v37 : Int,∃ x166v38 : Int,∃ x166v39 : Int,∃ x166v40 : Int,∃ x166v41 : Int,∃ x166v42 : Int,∃ x166v43 : Int,∃ x166v44 : Int,v82 = (.agg #[(.int .u64 x166v36),(.int .u64 x166v37),(.int .u64 x166v38),(.int .u64 x166v39),(.int .u64 x166v40),(.int .u64 x166v41),(.int .u64 x166v42),(.int .u64 x166v43),(.int .u32 x166v44)]) /\
 (RDB PG (do eqGuard .eql 56 (.tmp 165) (.tmp 166) (.agg #[(.int .u64 x165v36),(.int .u64 x165v37),(.int .u64 x165v38),(.int .u64 x165v39),(.int .u64 x165v40),(.int .u64 x165v41),(.int .u64 x165v42),(.int .u64 x165v43),(.int .u32 x165v44)]) (.agg #[(.int .u64 x166v36),(.int .u64 x166v37),(.int .u64 x166v38),(.int .u64 x166v39),(.int .u64 x166v40),(.int .u64 x166v41),(.int .u64 x166v42),(.int .u64 x166v43),(.int .u32 x166v44)]); binOp .eql 56 (.agg #[(.int .u64 x165v36),(.int .u64 x165v37),(.int .u64 x165v38),(.int .u64 x165v39),(.int .u64 x165v40),(.int .u64 x165v41),(.int .u64 x165v42),(.int .u64 x165v43),(.int .u32 x165v44)]) (.agg #[(.int .u64 x166v36),(.int .u64 x166v37),(.int .u64 x166v38),(.int .u64 x166v39),(.int .u64 x166v40),(.int .u64 x166v41),(.int .u64 x166v42),(.int .u64 x166v43),(.int .u32 x166v44)])) (w67.drew) fun x167v4 =>
 IFB x167v4
 (NILC x15 fun a171v4 =>
 RDP PG (loadVar 34 (a171v4.add 1)) (w67.drew) fun x173v4 =>
 NILC x173v4 fun a174v4 =>
 RD PG (loadVar 56 (a174v4.add 0)) (w67.drew) fun v83 =>
 ∃ x176v36 : Int,∃ x176v37 : Int,∃ x176v38 : Int,∃ x176v39 : Int,∃ x176v40 : Int,∃ x176v41 : Int,∃ x176v42 : Int,∃ x176v43 : Int,∃ x176v44 : Int,v83 = (.agg #[(.int .u64 x176v36),(.int .u64 x176v37),(.int .u64 x176v38),(.int .u64 x176v39),(.int .u64 x176v40),(.int .u64 x176v41),(.int .u64 x176v42),(.int .u64 x176v43),(.int .u32 x176v44)]) /\
 (RD PG (loadVar 56 a8v4) (w67.drew) fun v84 =>
 ∃ x177v36 : Int,∃ x177v37 : Int,∃ x177v38 : Int,∃ x177v39 : Int,∃ x177v40 : Int,∃ x177v41 : Int,∃ x177v42 : Int,∃ x177v43 : Int,∃ x177v44 : Int,v84 = (.agg #[(.int .u64 x177v36),(.int .u64 x177v37),(.int .u64 x177v38),(.int .u64 x177v39),(.int .u64 x177v40),(.int .u64 x177v41),(.int .u64 x177v42),(.int .u64 x177v43),(.int .u32 x177v44)]) /\
 (RDB PG (do eqGuard .eql 56 (.tmp 176) (.tmp 177) (.agg #[(.int .u64 x176v36),(.int .u64 x176v37),(.int .u64 x176v38),(.int .u64 x176v39),(.int .u64 x176v40),(.int .u64 x176v41),(.int .u64 x176v42),(.int .u64 x176v43),(.int .u32 x176v44)]) (.agg #[(.int .u64 x177v36),(.int .u64 x177v37),(.int .u64 x177v38),(.int .u64 x177v39),(.int .u64 x177v40),(.int .u64 x177v41),(.int .u64 x177v42),(.int .u64 x177v43),(.int .u32 x177v44)]); binOp .eql 56 (.agg #[(.int .u64 x176v36),(.int .u64 x176v37),(.int .u64 x176v38),(.int .u64 x176v39),(.int .u64 x176v40),(.int .u64 x176v41),(.int .u64 x176v42),(.int .u64 x176v43),(.int .u32 x176v44)]) (.agg #[(.int .u64 x177v36),(.int .u64 x177v37),(.int .u64 x177v38),(.int .u64 x177v39),(.int .u64 x177v40),(.int .u64 x177v41),(.int .u64 x177v42),(.int .u64 x177v43),(.int .u32 x177v44)])) (w67.drew) fun x178v4 =>
 IFB x178v4
 (IFB fits29
 (NILC x15 fun a185v4 =>
 RDP PG (loadVar 34 (a185v4.add 0)) (w67.drew) fun x187v4 =>
 CALL PG 11 [(.pointer x187v4)] (w67.drew) fun v85 w68 =>
 ∃ (x188v4 : Option Addr) (x188N4 x188C4 : Nat),v85 = (.slice x188v4 x188N4 x188C4) /\
 (IFB ((x188N4 : Int) == 1)
 (CALL PG 12 [] w68 fun v86 w69 =>
 ∃ x193v4 : Bool,v86 = (.bool x193v4) /\
 (LETB x193v4 fun x4v41 =>
 Q (.bool x4v41) w69))
 (LETB false fun x4v42 =>
 Q (.bool x4v42) w68)))
 (LETB false fun x4v43 =>
 Q (.bool x4v43) (w67.drew)))
 (LETB false fun x4v44 =>
 Q (.bool x4v44) (w67.drew)))))
 (LETB false fun x4v45 =>
 Q (.bool x4v45) (w67.drew)))))
 (LETB false fun x4v46 =>
 Q (.bool x4v46) (w67.drew)))))
 (LETB false fun x4v47 =>
 Q (.bool x4v47) (w67.drew)))))
 (LETB false fun x4v48 =>
 Q (.bool x4v48) (w67.drew)))
 (LETB false fun x4v49 =>
 Q (.bool x4v49) (w67.drew)))
 (LETB false fun x4v50 =>
 Q (.bool x4v50) (w67.drew))))))))) /\
 (RUNA PG (Instr.alloc 53 true (.tuple #[])) w58 fun a6v4 w70 =>
 ∃ S24 : World -> Prop,(∀ x,S24 x -> S19 x) /\ S24 w70 /\
 (CALL PG 8 [(.pointer x89)] w70 fun v87 w71 =>
 ∃ x90v72 : Int,∃ x90v73 : Int,∃ x90v74 : Int,∃ x90v75 : Int,∃ x90v76 : Int,∃ x90v77 : Int,∃ x90v78 : Int,∃ x90v79 : Int,∃ x90v80 : Int,∃ x90v81 : Int,∃ x90v82 : Int,∃ x90v83 : Int,∃ x90v84 : Bool,∃ x90v85 : Bool,∃ x90v86 : Int,∃ x90v87 : Int,∃ x90v88 : Int,∃ x90v89 : Int,v87 = (.agg #[(.int .i64 x90v72),(.int .i64 x90v73),(.int .i64 x90v74),(.int .u64 x90v75),(.int .u64 x90v76),(.int .i64 x90v77),(.int .u16 x90v78),(.int .u16 x90v79),(.int .u64 x90v80),(.int .u64 x90v81),(.int .u64 x90v82),(.int .u64 x90v83),(.bool x90v84),(.bool x90v85),(.int .i64 x90v86),(.int .i64 x90v87),(.int .i64 x90v88),(.int .i64 x90v89)]) /\
 (RUNU PG (storeVar 53 a6v4 (.agg #[(.int .i64 x85),(.int .i64 x85v1),(.int .i64 x85v2),(.int .u64 x85v3),(.int .u64 x85v4),(.int .i64 x85v5),(.int .u16 x85v6),(.int .u16 x85v7),(.int .u64 x85v8),(.int .u64 x85v9),(.int .u64 x85v10),(.int .u64 x85v11),(.bool x85v12),(.bool x85v13),(.int .i64 x85v14),(.int .i64 x85v15),(.int .i64 x85v16),(.int .i64 x85v17)])) w71 fun w72 =>
 RUNU PG (storeVar 53 a7v4 (.agg #[(.int .i64 x90v72),(.int .i64 x90v73),(.int .i64 x90v74),(.int .u64 x90v75),(.int .u64 x90v76),(.int .i64 x90v77),(.int .u16 x90v78),(.int .u16 x90v79),(.int .u64 x90v80),(.int .u64 x90v81),(.int .u64 x90v82),(.int .u64 x90v83),(.bool x90v84),(.bool x90v85),(.int .i64 x90v86),(.int .i64 x90v87),(.int .i64 x90v88),(.int .i64 x90v89)])) w72 fun w73 =>
 RDI PG (loadVar 25 (a3.add 0)) .u64 w73 fun x92v5 =>
 RDI PG (loadVar 25 (a3.add 1)) .u64 w73 fun x94v5 =>
 CALL PG 9 [(.int .u64 x92v5),(.int .u64 x94v5)] w73 fun v88 w74 =>
 ∃ x95v45 : Int,∃ x95v46 : Int,∃ x95v47 : Int,∃ x95v48 : Int,∃ x95v49 : Int,∃ x95v50 : Int,∃ x95v51 : Int,∃ x95v52 : Int,∃ x95v53 : Int,v88 = (.agg #[(.int .u64 x95v45),(.int .u64 x95v46),(.int .u64 x95v47),(.int .u64 x95v48),(.int .u64 x95v49),(.int .u64 x95v50),(.int .u64 x95v51),(.int .u64 x95v52),(.int .u32 x95v53)]) /\
 (RUNA PG (Instr.alloc 56 true (.tuple #[])) w74 fun a8v5 w75 =>
 RUNU PG (storeVar 56 a8v5 (.agg #[(.int .u64 x95v45),(.int .u64 x95v46),(.int .u64 x95v47),(.int .u64 x95v48),(.int .u64 x95v49),(.int .u64 x95v50),(.int .u64 x95v51),(.int .u64 x95v52),(.int .u32 x95v53)])) w75 fun w76 =>
 ∃ R5 : Bool -> World -> Prop,
 (∃ S25 : World -> Prop,S25 (w76.drew) /\
 (RDSI PG (loadVar 49 ((a6v4.add 5).add 1)) .u16 S25 fun x98v5 =>
 RDSI PG (loadVar 49 ((a7v4.add 5).add 2)) .u16 S25 fun x101v5 =>
 IFB (x98v5 == x101v5)
 (RDSI PG (loadVar 49 ((a6v4.add 5).add 2)) .u16 S25 fun x106v5 =>
 RDSI PG (loadVar 49 ((a7v4.add 5).add 1)) .u16 S25 fun x109v5 =>
 IFB (x106v5 == x109v5)
 (RDSI PG (loadVar 3 (a6v4.add 15)) .i64 S25 fun x114v5 =>
 IFB (x114v5 == 1)
 (RDSI PG (loadVar 3 (a7v4.add 15)) .i64 S25 fun x119v5 =>
 IFB (x119v5 == 1)
 (NILC x15 fun a124v5 =>
 RDSP PG (loadVar 34 (a124v5.add 0)) S25 fun x126v5 =>
 RDS PG (loadVar 24 a2) S25 fun v89 =>
 ∃ x128v75 : Int,∃ x128v76 : Int,∃ x128v77 : Int,∃ x128v78 : Int,∃ x128v79 : Int,∃ x128v80 : Int,∃ x128v81 : Int,∃ x128v82 : Int,∃ x128v83 : Int,∃ x128v84 : Int,∃ x128v85 : Int,∃ x128v86 : Int,∃ x128v87 : Int,∃ x128v88 : Int,∃ x128v89 : Int,v89 = (.agg #[(.int .i64 x128v75),(.int .i64 x128v76),(.int .i64 x128v77),(.int .i64 x128v78),(.int .i64 x128v79),(.int .i64 x128v80),(.int .i64 x128v81),(.int .i64 x128v82),(.int .i64 x128v83),(.int .i64 x128v84),(.int .i64 x128v85),(.int .i64 x128v86),(.int .i64 x128v87),(.int .i64 x128v88),(.int .i64 x128v89)]) /\
 (CALL PG 10 [(.pointer x126v5)] (w76.drew) fun v90 w77 =>
 ∃ x127v75 : Int,∃ x127v76 : Int,∃ x127v77 : Int,∃ x127v78 : Int,∃ x127v79 : Int,∃ x127v80 : Int,∃ x127v81 : Int,∃ x127v82 : Int,∃ x127v83 : Int,∃ x127v84 : Int,∃ x127v85 : Int,∃ x127v86 : Int,∃ x127v87 : Int,∃ x127v88 : Int,∃ x127v89 : Int,v90 = (.agg #[(.int .i64 x127v75),(.int .i64 x127v76),(.int .i64 x127v77),(.int .i64 x127v78),(.int .i64 x127v79),(.int .i64 x127v80),(.int .i64 x127v81),(.int .i64 x127v82),(.int .i64 x127v83),(.int .i64 x127v84),(.int .i64 x127v85),(.int .i64 x127v86),(.int .i64 x127v87),(.int .i64 x127v88),(.int .i64 x127v89)]) /\
 (∃ S26 : World -> Prop,(∀ x,S26 x -> S25 x) /\ S26 w77 /\
 (RDSB PG (do eqGuard .eql 24 (.tmp 127) (.tmp 128) (.agg #[(.int .i64 x127v75),(.int .i64 x127v76),(.int .i64 x127v77),(.int .i64 x127v78),(.int .i64 x127v79),(.int .i64 x127v80),(.int .i64 x127v81),(.int .i64 x127v82),(.int .i64 x127v83),(.int .i64 x127v84),(.int .i64 x127v85),(.int .i64 x127v86),(.int .i64 x127v87),(.int .i64 x127v88),(.int .i64 x127v89)]) (.agg #[(.int .i64 x128v75),(.int .i64 x128v76),(.int .i64 x128v77),(.int .i64 x128v78),(.int .i64 x128v79),(.int .i64 x128v80),(.int .i64 x128v81),(.int .i64 x128v82),(.int .i64 x128v83),(.int .i64 x128v84),(.int .i64 x128v85),(.int .i64 x128v86),(.int .i64 x128v87),(.int .i64 x128v88),(.int .i64 x128v89)]); binOp .eql 24 (.agg #[(.int .i64 x127v75),(.int .i64 x127v76),(.int .i64 x127v77),(.int .i64 x127v78),(.int .i64 x127v79),(.int .i64 x127v80),(.int .i64 x127v81),(.int .i64 x127v82),(.int .i64 x127v83),(.int .i64 x127v84),(.int .i64 x127v85),(.int .i64 x127v86),(.int .i64 x127v87),(.int .i64 x127v88),(.int .i64 x127v89)]) (.agg #[(.int .i64 x128v75),(.int .i64 x128v76),(.int .i64 x128v77),(.int .i64 x128v78),(.int .i64 x128v79),(.int .i64 x128v80),(.int .i64 x128v81),(.int .i64 x128v82),(.int .i64 x128v83),(.int .i64 x128v84),(.int .i64 x128v85),(.int .i64 x128v86),(.int .i64 x128v87),(.int .i64 x128v88),(.int .i64 x128v89)])) S26 fun x129v5 =>
 LETB x129v5 fun fits30 =>
 R5 fits30 w77))))
 (LETB false fun fits31 =>
 R5 fits31 (w76.drew)))
 (LETB false fun fits32 =>
 R5 fits32 (w76.drew)))
 (LETB false fun fits33 =>
 R5 fits33 (w76.drew)))
 (LETB false fun fits34 =>
 R5 fits34 (w76.drew)))) /\
 (∀ (fits35 : Bool) (w78 : World),R5 fits35 w78 -> (RDI PG (loadVar 39 (a7v4.add 0)) .i64 (w78.drew) fun x132v5 =>
 IFB (x132v5 == 3)
 (RDI PG (loadVar 48 (a6v4.add 2)) .i64 (w78.drew) fun x136v5 =>
 IFB (x136v5 == 1)
 (RDI PG (loadVar 48 (a7v4.add 2)) .i64 (w78.drew) fun x141v5 =>
 IFB (x141v5 == 2)
 (RD PG (loadVar 28 (a6v4.add 3)) (w78.drew) fun v91 =>
 ∃ x146v10 : Int,∃ x146v11 : Int,v91 = (.agg #[(.int .u64 x146v10),(.int .u64 x146v11)]) /\
 (RD PG (loadVar 28 (a8v5.add 0)) (w78.drew) fun v92 =>
 ∃ x148v10 : Int,∃ x148v11 : Int,v92 = (.agg #[(.int .u64 x148v10),(.int .u64 x148v11)]) /\
 (RDB PG (do eqGuard .eql 28 (.tmp 146) (.tmp 148) (.agg #[(.int .u64 x146v10),(.int .u64 x146v11)]) (.agg #[(.int .u64 x148v10),(.int .u64 x148v11)]); binOp .eql 28 (.agg #[(.int .u64 x146v10),(.int .u64 x146v11)]) (.agg #[(.int .u64 x148v10),(.int .u64 x148v11)])) (w78.drew) fun x149v5 =>
 IFB x149v5
 (RD PG (loadVar 28 (a7v4.add 3)) (w78.drew) fun v93 =>
 ∃ x153v10 : Int,∃ x153v11 : Int,v93 = (.agg #[(.int .u64 x153v10),(.int .u64 x153v11)]) /\
 (RD PG (loadVar 28 (a8v5.add 0)) (w78.drew) fun v94 =>
 ∃ x155v10 : Int,∃ x155v11 : Int,v94 = (.agg #[(.int .u64 x155v10),(.int .u64 x155v11)]) /\
 (RDB PG (do eqGuard .eql 28 (.tmp 153) (.tmp 155) (.agg #[(.int .u64 x153v10),(.int .u64 x153v11)]) (.agg #[(.int .u64 x155v10),(.int .u64 x155v11)]); binOp .eql 28 (.agg #[(.int .u64 x153v10),(.int .u64 x153v11)]) (.agg #[(.int .u64 x155v10),(.int .u64 x155v11)])) (w78.drew) fun x156v5 =>
 IFB x156v5
 (NILC x15 fun a160v5 =>
 RDP PG (loadVar 34 (a160v5.add 0)) (w78.drew) fun x162v5 =>
 NILC x162v5 fun a163v5 =>
 RD PG (loadVar 56 (a163v5.add 0)) (w78.drew) fun v95 =>
 ∃ x165v45 : Int,∃ x165v46 : Int,∃ x165v47 : Int,∃ x165v48 : Int,∃ x165v49 : Int,∃ x165v50 : Int,∃ x165v51 : Int,∃ x165v52 : Int,∃ x165v53 : Int,v95 = (.agg #[(.int .u64 x165v45),(.int .u64 x165v46),(.int .u64 x165v47),(.int .u64 x165v48),(.int .u64 x165v49),(.int .u64 x165v50),(.int .u64 x165v51),(.int .u64 x165v52),(.int .u32 x165v53)]) /\
 (RD PG (loadVar 56 a8v5) (w78.drew) fun v96 =>
 ∃ x166v45 : Int,∃ x166v46 : Int,∃ x166v47 : Int,∃ x166v48 : Int,∃ x166v49 : Int,∃ x166v50 : Int,∃ x166v51 : Int,∃ x166v52 : Int,∃ x166v53 : Int,v96 = (.agg #[(.int .u64 x166v45),(.int .u64 x166v46),(.int .u64 x166v47),(.int .u64 x166v48),(.int .u64 x166v49),(.int .u64 x166v50),(.int .u64 x166v51),(.int .u64 x166v52),(.int .u32 x166v53)]) /\
 (RDB PG (do eqGuard .eql 56 (.tmp 165) (.tmp 166) (.agg #[(.int .u64 x165v45),(.int .u64 x165v46),(.int .u64 x165v47),(.int .u64 x165v48),(.int .u64 x165v49),(.int .u64 x165v50),(.int .u64 x165v51),(.int .u64 x165v52),(.int .u32 x165v53)]) (.agg #[(.int .u64 x166v45),(.int .u64 x166v46),(.int .u64 x166v47),(.int .u64 x166v48),(.int .u64 x166v49),(.int .u64 x166v50),(.int .u64 x166v51),(.int .u64 x166v52),(.int .u32 x166v53)]); binOp .eql 56 (.agg #[(.int .u64 x165v45),(.int .u64 x165v46),(.int .u64 x165v47),(.int .u64 x165v48),(.int .u64 x165v49),(.int .u64 x165v50),(.int .u64 x165v51),(.int .u64 x165v52),(.int .u32 x165v53)]) (.agg #[(.int .u64 x166v45),(.int .u64 x166v46),(.int .u64 x166v47),(.int .u64 x166v48),(.int .u64 x166v49),(.int .u64 x166v50),(.int .u64 x166v51),(.int .u64 x166v52),(.int .u32 x166v53)])) (w78.drew) fun x167v5 =>
 IFB x167v5
 (NILC x15 fun a171v5 =>
 RDP PG (loadVar 34 (a171v5.add 1)) (w78.drew) fun x173v5 =>
 NILC x173v5 fun a174v5 =>
 RD PG (loadVar 56 (a174v5.add 0)) (w78.drew) fun v97 =>
 ∃ x176v45 : Int,∃ x176v46 : Int,∃ x176v47 : Int,∃ x176v48 : Int,∃ x176v49 : Int,∃ x176v50 : Int,∃ x176v51 : Int,∃ x176v52 : Int,∃ x176v53 : Int,v97 = (.agg #[(.int .u64 x176v45),(.int .u64 x176v46),(.int .u64 x176v47),(.int .u64 x176v48),(.int .u64 x176v49),(.int .u64 x176v50),(.int .u64 x176v51),(.int .u64 x176v52),(.int .u32 x176v53)]) /\
 (RD PG (loadVar 56 a8v5) (w78.drew) fun v98 =>
 ∃ x177v45 : Int,∃ x177v46 : Int,∃ x177v47 : Int,∃ x177v48 : Int,∃ x177v49 : Int,∃ x177v50 : Int,∃ x177v51 : Int,∃ x177v52 : Int,∃ x177v53 : Int,v98 = (.agg #[(.int .u64 x177v45),(.int .u64 x177v46),(.int .u64 x177v47),(.int .u64 x177v48),(.int .u64 x177v49),(.int .u64 x177v50),(.int .u64 x177v51),(.int .u64 x177v52),(.int .u32 x177v53)]) /\
 (RDB PG (do eqGuard .eql 56 (.tmp 176) (.tmp 177) (.agg #[(.int .u64 x176v45),(.int .u64 x176v46),(.int .u64 x176v47),(.int .u64 x176v48),(.int .u64 x176v49),(.int .u64 x176v50),(.int .u64 x176v51),(.int .u64 x176v52),(.int .u32 x176v53)]) (.agg #[(.int .u64 x177v45),(.int .u64 x177v46),(.int .u64 x177v47),(.int .u64 x177v48),(.int .u64 x177v49),(.int .u64 x177v50),(.int .u64 x177v51),(.int .u64 x177v52),(.int .u32 x177v53)]); binOp .eql 56 (.agg #[(.int .u64 x176v45),(.int .u64 x176v46),(.int .u64 x176v47),(.int .u64 x176v48),(.int .u64 x176v49),(.int .u64 x176v50),(.int .u64 x176v51),(.int .u64 x176v52),(.int .u32 x176v53)]) (.agg #[(.int .u64 x177v45),(.int .u64 x177v46),(.int .u64 x177v47),(.int .u64 x177v48),(.int .u64 x177v49),(.int .u64 x177v50),(.int .u64 x177v51),(.int .u64 x177v52),(.int .u32 x177v53)])) (w78.drew) fun x178v5 =>
 IFB x178v5
 (IFB fits35
 (NILC x15 fun a185v5 =>
 RDP PG (loadVar 34 (a185v5.add 0)) (w78.drew) fun x187v5 =>
 CALL PG 11 [(.pointer x187v5)] (w78.drew) fun v99 w79 =>
 ∃ (x188v5 : Option Addr) (x188N5 x188C5 : Nat),v99 = (.slice x188v5 x188N5 x188C5) /\
 (IFB ((x188N5 : Int) == 1)
 (CALL PG 12 [] w79 fun v100 w80 =>
 ∃ x193v5 : Bool,v100 = (.bool x193v5) /\
 (LETB x193v5 fun x4v51 =>
 Q (.bool x4v51) w80))
 (LETB false fun x4v52 =>
 Q (.bool x4v52) w79)))
 (LETB false fun x4v53 =>
 Q (.bool x4v53) (w78.drew)))
 (LETB false fun x4v54 =>
 Q (.bool x4v54) (w78.drew)))))
 (LETB false fun x4v55 =>
 Q (.bool x4v55) (w78.drew)))))
 (LETB false fun x4v56 =>
 Q (.bool x4v56) (w78.drew)))))
 (LETB false fun x4v57 =>
 Q (.bool x4v57) (w78.drew)))))
 (LETB false fun x4v58 =>
 Q (.bool x4v58) (w78.drew)))
 (LETB false fun x4v59 =>
 Q (.bool x4v59) (w78.drew)))
 (LETB false fun x4v60 =>
 Q (.bool x4v60) (w78.drew))))))))))))) /\
 (RUNA PG (Instr.alloc 53 true (.tuple #[])) (w10.drew) fun a6v5 w81 =>
 ∃ S27 : World -> Prop,(∀ x,S27 x -> S x) /\ S27 w81 /\
 ((CALL PG 8 [(.pointer x84)] w81 fun v101 w82 =>
 ∃ x85v18 : Int,∃ x85v19 : Int,∃ x85v20 : Int,∃ x85v21 : Int,∃ x85v22 : Int,∃ x85v23 : Int,∃ x85v24 : Int,∃ x85v25 : Int,∃ x85v26 : Int,∃ x85v27 : Int,∃ x85v28 : Int,∃ x85v29 : Int,∃ x85v30 : Bool,∃ x85v31 : Bool,∃ x85v32 : Int,∃ x85v33 : Int,∃ x85v34 : Int,∃ x85v35 : Int,v101 = (.agg #[(.int .i64 x85v18),(.int .i64 x85v19),(.int .i64 x85v20),(.int .u64 x85v21),(.int .u64 x85v22),(.int .i64 x85v23),(.int .u16 x85v24),(.int .u16 x85v25),(.int .u64 x85v26),(.int .u64 x85v27),(.int .u64 x85v28),(.int .u64 x85v29),(.bool x85v30),(.bool x85v31),(.int .i64 x85v32),(.int .i64 x85v33),(.int .i64 x85v34),(.int .i64 x85v35)]) /\
 (∃ S28 : World -> Prop,(∀ x,S28 x -> S27 x) /\ S28 w82 /\
 ((CALL PG 8 [(.pointer x89)] w82 fun v102 w83 =>
 ∃ x90v90 : Int,∃ x90v91 : Int,∃ x90v92 : Int,∃ x90v93 : Int,∃ x90v94 : Int,∃ x90v95 : Int,∃ x90v96 : Int,∃ x90v97 : Int,∃ x90v98 : Int,∃ x90v99 : Int,∃ x90v100 : Int,∃ x90v101 : Int,∃ x90v102 : Bool,∃ x90v103 : Bool,∃ x90v104 : Int,∃ x90v105 : Int,∃ x90v106 : Int,∃ x90v107 : Int,v102 = (.agg #[(.int .i64 x90v90),(.int .i64 x90v91),(.int .i64 x90v92),(.int .u64 x90v93),(.int .u64 x90v94),(.int .i64 x90v95),(.int .u16 x90v96),(.int .u16 x90v97),(.int .u64 x90v98),(.int .u64 x90v99),(.int .u64 x90v100),(.int .u64 x90v101),(.bool x90v102),(.bool x90v103),(.int .i64 x90v104),(.int .i64 x90v105),(.int .i64 x90v106),(.int .i64 x90v107)]) /\
 (∃ S29 : World -> Prop,(∀ x,S29 x -> S28 x) /\ S29 w83 /\
 (RUNA PG (Instr.alloc 53 true (.tuple #[])) w83 fun a7v5 w84 =>
 ∃ S30 : World -> Prop,(∀ x,S30 x -> S29 x) /\ S30 w84 /\
 (RUNU PG (storeVar 53 a6v5 (.agg #[(.int .i64 x85v18),(.int .i64 x85v19),(.int .i64 x85v20),(.int .u64 x85v21),(.int .u64 x85v22),(.int .i64 x85v23),(.int .u16 x85v24),(.int .u16 x85v25),(.int .u64 x85v26),(.int .u64 x85v27),(.int .u64 x85v28),(.int .u64 x85v29),(.bool x85v30),(.bool x85v31),(.int .i64 x85v32),(.int .i64 x85v33),(.int .i64 x85v34),(.int .i64 x85v35)])) w84 fun w85 =>
 RUNU PG (storeVar 53 a7v5 (.agg #[(.int .i64 x90v90),(.int .i64 x90v91),(.int .i64 x90v92),(.int .u64 x90v93),(.int .u64 x90v94),(.int .i64 x90v95),(.int .u16 x90v96),(.int .u16 x90v97),(.int .u64 x90v98),(.int .u64 x90v99),(.int .u64 x90v100),(.int .u64 x90v101),(.bool x90v102),(.bool x90v103),(.int .i64 x90v104),(.int .i64 x90v105),(.int .i64 x90v106),(.int .i64 x90v107)])) w85 fun w86 =>
 RDI PG (loadVar 25 (a3.add 0)) .u64 w86 fun x92v6 =>
 RDI PG (loadVar 25 (a3.add 1)) .u64 w86 fun x94v6 =>
 CALL PG 9 [(.int .u64 x92v6),(.int .u64 x94v6)] w86 fun v103 w87 =>
 ∃ x95v54 : Int,∃ x95v55 : Int,∃ x95v56 : Int,∃ x95v57 : Int,∃ x95v58 : Int,∃ x95v59 : Int,∃ x95v60 : Int,∃ x95v61 : Int,∃ x95v62 : Int,v103 = (.agg #[(.int .u64 x95v54),(.int .u64 x95v55),(.int .u64 x95v56),(.int .u64 x95v57),(.int .u64 x95v58),(.int .u64 x95v59),(.int .u64 x95v60),(.int .u64 x95v61),(.int .u32 x95v62)]) /\
 (RUNA PG (Instr.alloc 56 true (.tuple #[])) w87 fun a8v6 w88 =>
 RUNU PG (storeVar 56 a8v6 (.agg #[(.int .u64 x95v54),(.int .u64 x95v55),(.int .u64 x95v56),(.int .u64 x95v57),(.int .u64 x95v58),(.int .u64 x95v59),(.int .u64 x95v60),(.int .u64 x95v61),(.int .u32 x95v62)])) w88 fun w89 =>
 ∃ R6 : Bool -> World -> Prop,
 (∃ S31 : World -> Prop,S31 (w89.drew) /\
 (RDSI PG (loadVar 49 ((a6v5.add 5).add 1)) .u16 S31 fun x98v6 =>
 RDSI PG (loadVar 49 ((a7v5.add 5).add 2)) .u16 S31 fun x101v6 =>
 IFB (x98v6 == x101v6)
 (RDSI PG (loadVar 49 ((a6v5.add 5).add 2)) .u16 S31 fun x106v6 =>
 RDSI PG (loadVar 49 ((a7v5.add 5).add 1)) .u16 S31 fun x109v6 =>
 IFB (x106v6 == x109v6)
 (RDSI PG (loadVar 3 (a6v5.add 15)) .i64 S31 fun x114v6 =>
 IFB (x114v6 == 1)
 (RDSI PG (loadVar 3 (a7v5.add 15)) .i64 S31 fun x119v6 =>
 IFB (x119v6 == 1)
 (NILC x15 fun a124v6 =>
 RDSP PG (loadVar 34 (a124v6.add 0)) S31 fun x126v6 =>
 RDS PG (loadVar 24 a2) S31 fun v104 =>
 ∃ x128v90 : Int,∃ x128v91 : Int,∃ x128v92 : Int,∃ x128v93 : Int,∃ x128v94 : Int,∃ x128v95 : Int,∃ x128v96 : Int,∃ x128v97 : Int,∃ x128v98 : Int,∃ x128v99 : Int,∃ x128v100 : Int,∃ x128v101 : Int,∃ x128v102 : Int,∃ x128v103 : Int,∃ x128v104 : Int,v104 = (.agg #[(.int .i64 x128v90),(.int .i64 x128v91),(.int .i64 x128v92),(.int .i64 x128v93),(.int .i64 x128v94),(.int .i64 x128v95),(.int .i64 x128v96),(.int .i64 x128v97),(.int .i64 x128v98),(.int .i64 x128v99),(.int .i64 x128v100),(.int .i64 x128v101),(.int .i64 x128v102),(.int .i64 x128v103),(.int .i64 x128v104)]) /\
 (CALL PG 10 [(.pointer x126v6)] (w89.drew) fun v105 w90 =>
 ∃ x127v90 : Int,∃ x127v91 : Int,∃ x127v92 : Int,∃ x127v93 : Int,∃ x127v94 : Int,∃ x127v95 : Int,∃ x127v96 : Int,∃ x127v97 : Int,∃ x127v98 : Int,∃ x127v99 : Int,∃ x127v100 : Int,∃ x127v101 : Int,∃ x127v102 : Int,∃ x127v103 : Int,∃ x127v104 : Int,v105 = (.agg #[(.int .i64 x127v90),(.int .i64 x127v91),(.int .i64 x127v92),(.int .i64 x127v93),(.int .i64 x127v94),(.int .i64 x127v95),(.int .i64 x127v96),(.int .i64 x127v97),(.int .i64 x127v98),(.int .i64 x127v99),(.int .i64 x127v100),(.int .i64 x127v101),(.int .i64 x127v102),(.int .i64 x127v103),(.int .i64 x127v104)]) /\
 (∃ S32 : World -> Prop,(∀ x,S32 x -> S31 x) /\ S32 w90 /\
 (RDSB PG (do eqGuard .eql 24 (.tmp 127) (.tmp 128) (.agg #[(.int .i64 x127v90),(.int .i64 x127v91),(.int .i64 x127v92),(.int .i64 x127v93),(.int .i64 x127v94),(.int .i64 x127v95),(.int .i64 x127v96),(.int .i64 x127v97),(.int .i64 x127v98),(.int .i64 x127v99),(.int .i64 x127v100),(.int .i64 x127v101),(.int .i64 x127v102),(.int .i64 x127v103),(.int .i64 x127v104)]) (.agg #[(.int .i64 x128v90),(.int .i64 x128v91),(.int .i64 x128v92),(.int .i64 x128v93),(.int .i64 x128v94),(.int .i64 x128v95),(.int .i64 x128v96),(.int .i64 x128v97),(.int .i64 x128v98),(.int .i64 x128v99),(.int .i64 x128v100),(.int .i64 x128v101),(.int .i64 x128v102),(.int .i64 x128v103),(.int .i64 x128v104)]); binOp .eql 24 (.agg #[(.int .i64 x127v90),(.int .i64 x127v91),(.int .i64 x127v92),(.int .i64 x127v93),(.int .i64 x127v94),(.int .i64 x127v95),(.int .i64 x127v96),(.int .i64 x127v97),(.int .i64 x127v98),(.int .i64 x127v99),(.int .i64 x127v100),(.int .i64 x127v101),(.int .i64 x127v102),(.int .i64 x127v103),(.int .i64 x127v104)]) (.agg #[(.int .i64 x128v90),(.int .i64 x128v91),(.int .i64 x128v92),(.int .i64 x128v93),(.int .i64 x128v94),(.int .i64 x128v95),(.int .i64 x128v96),(.int .i64 x128v97),(.int .i64 x128v98),(.int .i64 x128v99),(.int .i64 x128v100),(.int .i64 x128v101),(.int .i64 x128v102),(.int .i64 x128v103),(.int .i64 x128v104)])) S32 fun x129v6 =>
 LETB x129v6 fun fits36 =>
 R6 fits36 w90))))
 (LETB false fun fits37 =>
 R6 fits37 (w89.drew)))
 (LETB false fun fits38 =>
 R6 fits38 (w89.drew)))
 (LETB false fun fits39 =>
 R6 fits39 (w89.drew)))
 (LETB false fun fits40 =>
 R6 fits40 (w89.drew)))) /\
 (∀ (fits41 : Bool) (w91 : World),R6 fits41 w91 -> (RDI PG (loadVar 39 (a7v5.add 0)) .i64 (w91.drew) fun x132v6 =>
 IFB (x132v6 == 3)
 (RDI PG (loadVar 48 (a6v5.add 2)) .i64 (w91.drew) fun x136v6 =>
 IFB (x136v6 == 1)
 (RDI PG (loadVar 48 (a7v5.add 2)) .i64 (w91.drew) fun x141v6 =>
 IFB (x141v6 == 2)
 (RD PG (loadVar 28 (a6v5.add 3)) (w91.drew) fun v106 =>
 ∃ x146v12 : Int,∃ x146v13 : Int,v106 = (.agg #[(.int .u64 x146v12),(.int .u64 x146v13)]) /\
 (RD PG (loadVar 28 (a8v6.add 0)) (w91.drew) fun v107 =>
 ∃ x148v12 : Int,∃ x148v13 : Int,v107 = (.agg #[(.int .u64 x148v12),(.int .u64 x148v13)]) /\
 (RDB PG (do eqGuard .eql 28 (.tmp 146) (.tmp 148) (.agg #[(.int .u64 x146v12),(.int .u64 x146v13)]) (.agg #[(.int .u64 x148v12),(.int .u64 x148v13)]); binOp .eql 28 (.agg #[(.int .u64 x146v12),(.int .u64 x146v13)]) (.agg #[(.int .u64 x148v12),(.int .u64 x148v13)])) (w91.drew) fun x149v6 =>
 IFB x149v6
 (RD PG (loadVar 28 (a7v5.add 3)) (w91.drew) fun v108 =>
 ∃ x153v12 : Int,∃ x153v13 : Int,v108 = (.agg #[(.int .u64 x153v12),(.int .u64 x153v13)]) /\
 (RD PG (loadVar 28 (a8v6.add 0)) (w91.drew) fun v109 =>
 ∃ x155v12 : Int,∃ x155v13 : Int,v109 = (.agg #[(.int .u64 x155v12),(.int .u64 x155v13)]) /\
 (RDB PG (do eqGuard .eql 28 (.tmp 153) (.tmp 155) (.agg #[(.int .u64 x153v12),(.int .u64 x153v13)]) (.agg #[(.int .u64 x155v12),(.int .u64 x155v13)]); binOp .eql 28 (.agg #[(.int .u64 x153v12),(.int .u64 x153v13)]) (.agg #[(.int .u64 x155v12),(.int .u64 x155v13)])) (w91.drew) fun x156v6 =>
 IFB x156v6
 (NILC x15 fun a160v6 =>
 RDP PG (loadVar 34 (a160v6.add 0)) (w91.drew) fun x162v6 =>
 NILC x162v6 fun a163v6 =>
 RD PG (loadVar 56 (a163v6.add 0)) (w91.drew) fun v110 =>
 ∃ x165v54 : Int,∃ x165v55 : Int,∃ x165v56 : Int,∃ x165v57 : Int,∃ x165v58 : Int,∃ x165v59 : Int,∃ x165v60 : Int,∃ x165v61 : Int,∃ x165v62 : Int,v110 = (.agg #[(.int .u64 x165v54),(.int .u64 x165v55),(.int .u64 x165v56),(.int .u64 x165v57),(.int .u64 x165v58),(.int .u64 x165v59),(.int .u64 x165v60),(.int .u64 x165v61),(.int .u32 x165v62)]) /\
 (RD PG (loadVar 56 a8v6) (w91.drew) fun v111 =>
 ∃ x166v54 : Int,∃ x166v55 : Int,∃ x166v56 : Int,∃ x166v57 : Int,∃ x166v58 : Int,∃ x166v59 : Int,∃ x166v60 : Int,∃ x166v61 : Int,∃ x166v62 : Int,v111 = (.agg #[(.int .u64 x166v54),(.int .u64 x166v55),(.int .u64 x166v56),(.int .u64 x166v57),(.int .u64 x166v58),(.int .u64 x166v59),(.int .u64 x166v60),(.int .u64 x166v61),(.int .u32 x166v62)]) /\
 (RDB PG (do eqGuard .eql 56 (.tmp 165) (.tmp 166) (.agg #[(.int .u64 x165v54),(.int .u64 x165v55),(.int .u64 x165v56),(.int .u64 x165v57),(.int .u64 x165v58),(.int .u64 x165v59),(.int .u64 x165v60),(.int .u64 x165v61),(.int .u32 x165v62)]) (.agg #[(.int .u64 x166v54),(.int .u64 x166v55),(.int .u64 x166v56),(.int .u64 x166v57),(.int .u64 x166v58),(.int .u64 x166v59),(.int .u64 x166v60),(.int .u64 x166v61),(.int .u32 x166v62)]); binOp .eql 56 (.agg #[(.int .u64 x165v54),(.int .u64 x165v55),(.int .u64 x165v56),(.int .u64 x165v57),(.int .u64 x165v58),(.int .u64 x165v59),(.int .u64 x165v60),(.int .u64 x165v61),(.int .u32 x165v62)]) (.agg #[(.int .u64 x166v54),(.int .u64 x166v55),(.int .u64 x166v56),(.int .u64 x166v57),(.int .u64 x166v58),(.int .u64 x166v59),(.int .u64 x166v60),(.int .u64 x166v61),(.int .u32 x166v62)])) (w91.drew) fun x167v6 =>
 IFB x167v6
 (NILC x15 fun a171v6 =>
 RDP PG (loadVar 34 (a171v6.add 1)) (w91.drew) fun x173v6 =>
 NILC x173v6 fun a174v6 =>
 RD PG (loadVar 56 (a174v6.add 0)) (w91.drew) fun v112 =>
 ∃ x176v54 : Int,∃ x176v55 : Int,∃ x176v56 : Int,∃ x176v57 : Int,∃ x176v58 : Int,∃ x176v59 : Int,∃ x176v60 : Int,∃ x176v61 : Int,∃ x176v62 : Int,v112 = (.agg #[(.int .u64 x176v54),(.int .u64 x176v55),(.int .u64 x176v56),(.int .u64 x176v57),(.int .u64 x176v58),(.int .u64 x176v59),(.int .u64 x176v60),(.int .u64 x176v61),(.int .u32 x176v62)]) /\
 (RD PG (loadVar 56 a8v6) (w91.drew) fun v113 =>
 ∃ x177v54 : Int,∃ x177v55 : Int,∃ x177v56 : Int,∃ x177v57 : Int,∃ x177v58 : Int,∃ x177v59 : Int,∃ x177v60 : Int,∃ x177v61 : Int,∃ x177v62 : Int,v113 = (.agg #[(.int .u64 x177v54),(.int .u64 x177v55),(.int .u64 x177v56),(.int .u64 x177v57),(.int .u64 x177v58),(.int .u64 x177v59),(.int .u64 x177v60),(.int .u64 x177v61),(.int .u32 x177v62)]) /\
 (RDB PG (do eqGuard .eql 56 (.tmp 176) (.tmp 177) (.agg #[(.int .u64 x176v54),(.int .u64 x176v55),(.int .u64 x176v56),(.int .u64 x176v57),(.int .u64 x176v58),(.int .u64 x176v59),(.int .u64 x176v60),(.int .u64 x176v61),(.int .u32 x176v62)]) (.agg #[(.int .u64 x177v54),(.int .u64 x177v55),(.int .u64 x177v56),(.int .u64 x177v57),(.int .u64 x177v58),(.int .u64 x177v59),(.int .u64 x177v60),(.int .u64 x177v61),(.int .u32 x177v62)]); binOp .eql 56 (.agg #[(.int .u64 x176v54),(.int .u64 x176v55),(.int .u64 x176v56),(.int .u64 x176v57),(.int .u64 x176v58),(.int .u64 x176v59),(.int .u64 x176v60),(.int .u64 x176v61),(.int .u32 x176v62)]) (.agg #[(.int .u64 x177v54),(.int .u64 x177v55),(.int .u64 x177v56),(.int .u64 x177v57),(.int .u64 x177v58),(.int .u64 x177v59),(.int .u64 x177v60),(.int .u64 x177v61),(.int .u32 x177v62)])) (w91.drew) fun x178v6 =>
 IFB x178v6
 (IFB fits41
 (NILC x15 fun a185v6 =>
 RDP PG (loadVar 34 (a185v6.add 0)) (w91.drew) fun x187v6 =>
 CALL PG 11 [(.pointer x187v6)] (w91.drew) fun v114 w92 =>
 ∃ (x188v6 : Option Addr) (x188N6 x188C6 : Nat),v114 = (.slice x188v6 x188N6 x188C6) /\
 (IFB ((x188N6 : Int) == 1)
 (CALL PG 12 [] w92 fun v115 w93 =>
 ∃ x193v6 : Bool,v115 = (.bool x193v6) /\
 (LETB x193v6 fun x4v61 =>
 Q (.bool x4v61) w93))
 (LETB false fun x4v62 =>
 Q (.bool x4v62) w92)))
 (LETB false fun x4v63 =>
 Q (.bool x4v63) (w91.drew)))
 (LETB false fun x4v64 =>
 Q (.bool x4v64) (w91.drew)))))
 (LETB false fun x4v65 =>
 Q (.bool x4v65) (w91.drew)))))
 (LETB false fun x4v66 =>
 Q (.bool x4v66) (w91.drew)))))
 (LETB false fun x4v67 =>
 Q (.bool x4v67) (w91.drew)))))
 (LETB false fun x4v68 =>
 Q (.bool x4v68) (w91.drew)))
 (LETB false fun x4v69 =>
 Q (.bool x4v69) (w91.drew)))
 (LETB false fun x4v70 =>
 Q (.bool x4v70) (w91.drew))))))))) /\
 (RUNA PG (Instr.alloc 53 true (.tuple #[])) w82 fun a7v6 w94 =>
 ∃ S33 : World -> Prop,(∀ x,S33 x -> S28 x) /\ S33 w94 /\
 (CALL PG 8 [(.pointer x89)] w94 fun v116 w95 =>
 ∃ x90v108 : Int,∃ x90v109 : Int,∃ x90v110 : Int,∃ x90v111 : Int,∃ x90v112 : Int,∃ x90v113 : Int,∃ x90v114 : Int,∃ x90v115 : Int,∃ x90v116 : Int,∃ x90v117 : Int,∃ x90v118 : Int,∃ x90v119 : Int,∃ x90v120 : Bool,∃ x90v121 : Bool,∃ x90v122 : Int,∃ x90v123 : Int,∃ x90v124 : Int,∃ x90v125 : Int,v116 = (.agg #[(.int .i64 x90v108),(.int .i64 x90v109),(.int .i64 x90v110),(.int .u64 x90v111),(.int .u64 x90v112),(.int .i64 x90v113),(.int .u16 x90v114),(.int .u16 x90v115),(.int .u64 x90v116),(.int .u64 x90v117),(.int .u64 x90v118),(.int .u64 x90v119),(.bool x90v120),(.bool x90v121),(.int .i64 x90v122),(.int .i64 x90v123),(.int .i64 x90v124),(.int .i64 x90v125)]) /\
 (RUNU PG (storeVar 53 a6v5 (.agg #[(.int .i64 x85v18),(.int .i64 x85v19),(.int .i64 x85v20),(.int .u64 x85v21),(.int .u64 x85v22),(.int .i64 x85v23),(.int .u16 x85v24),(.int .u16 x85v25),(.int .u64 x85v26),(.int .u64 x85v27),(.int .u64 x85v28),(.int .u64 x85v29),(.bool x85v30),(.bool x85v31),(.int .i64 x85v32),(.int .i64 x85v33),(.int .i64 x85v34),(.int .i64 x85v35)])) w95 fun w96 =>
 RUNU PG (storeVar 53 a7v6 (.agg #[(.int .i64 x90v108),(.int .i64 x90v109),(.int .i64 x90v110),(.int .u64 x90v111),(.int .u64 x90v112),(.int .i64 x90v113),(.int .u16 x90v114),(.int .u16 x90v115),(.int .u64 x90v116),(.int .u64 x90v117),(.int .u64 x90v118),(.int .u64 x90v119),(.bool x90v120),(.bool x90v121),(.int .i64 x90v122),(.int .i64 x90v123),(.int .i64 x90v124),(.int .i64 x90v125)])) w96 fun w97 =>
 RDI PG (loadVar 25 (a3.add 0)) .u64 w97 fun x92v7 =>
 RDI PG (loadVar 25 (a3.add 1)) .u64 w97 fun x94v7 =>
 CALL PG 9 [(.int .u64 x92v7),(.int .u64 x94v7)] w97 fun v117 w98 =>
 ∃ x95v63 : Int,∃ x95v64 : Int,∃ x95v65 : Int,∃ x95v66 : Int,∃ x95v67 : Int,∃ x95v68 : Int,∃ x95v69 : Int,∃ x95v70 : Int,∃ x95v71 : Int,v117 = (.agg #[(.int .u64 x95v63),(.int .u64 x95v64),(.int .u64 x95v65),(.int .u64 x95v66),(.int .u64 x95v67),(.int .u64 x95v68),(.int .u64 x95v69),(.int .u64 x95v70),(.int .u32 x95v71)]) /\
 (RUNA PG (Instr.alloc 56 true (.tuple #[])) w98 fun a8v7 w99 =>
 RUNU PG (storeVar 56 a8v7 (.agg #[(.int .u64 x95v63),(.int .u64 x95v64),(.int .u64 x95v65),(.int .u64 x95v66),(.int .u64 x95v67),(.int .u64 x95v68),(.int .u64 x95v69),(.int .u64 x95v70),(.int .u32 x95v71)])) w99 fun w100 =>
 ∃ R7 : Bool -> World -> Prop,
 (∃ S34 : World -> Prop,S34 (w100.drew) /\
 (RDSI PG (loadVar 49 ((a6v5.add 5).add 1)) .u16 S34 fun x98v7 =>
 RDSI PG (loadVar 49 ((a7v6.add 5).add 2)) .u16 S34 fun x101v7 =>
 IFB (x98v7 == x101v7)
 (RDSI PG (loadVar 49 ((a6v5.add 5).add 2)) .u16 S34 fun x106v7 =>
 RDSI PG (loadVar 49 ((a7v6.add 5).add 1)) .u16 S34 fun x109v7 =>
 IFB (x106v7 == x109v7)
 (RDSI PG (loadVar 3 (a6v5.add 15)) .i64 S34 fun x114v7 =>
 IFB (x114v7 == 1)
 (RDSI PG (loadVar 3 (a7v6.add 15)) .i64 S34 fun x119v7 =>
 IFB (x119v7 == 1)
 (NILC x15 fun a124v7 =>
 RDSP PG (loadVar 34 (a124v7.add 0)) S34 fun x126v7 =>
 RDS PG (loadVar 24 a2) S34 fun v118 =>
 ∃ x128v105 : Int,∃ x128v106 : Int,∃ x128v107 : Int,∃ x128v108 : Int,∃ x128v109 : Int,∃ x128v110 : Int,∃ x128v111 : Int,∃ x128v112 : Int,∃ x128v113 : Int,∃ x128v114 : Int,∃ x128v115 : Int,∃ x128v116 : Int,∃ x128v117 : Int,∃ x128v118 : Int,∃ x128v119 : Int,v118 = (.agg #[(.int .i64 x128v105),(.int .i64 x128v106),(.int .i64 x128v107),(.int .i64 x128v108),(.int .i64 x128v109),(.int .i64 x128v110),(.int .i64 x128v111),(.int .i64 x128v112),(.int .i64 x128v113),(.int .i64 x128v114),(.int .i64 x128v115),(.int .i64 x128v116),(.int .i64 x128v117),(.int .i64 x128v118),(.int .i64 x128v119)]) /\
 (CALL PG 10 [(.pointer x126v7)] (w100.drew) fun v119 w101 =>
 ∃ x127v105 : Int,∃ x127v106 : Int,∃ x127v107 : Int,∃ x127v108 : Int,∃ x127v109 : Int,∃ x127v110 : Int,∃ x127v111 : Int,∃ x127v112 : Int,∃ x127v113 : Int,∃ x127v114 : Int,∃ x127v115 : Int,∃ x127v116 : Int,∃ x127v117 : Int,∃ x127v118 : Int,∃ x127v119 : Int,v119 = (.agg #[(.int .i64 x127v105),(.int .i64 x127v106),(.int .i64 x127v107),(.int .i64 x127v108),(.int .i64 x127v109),(.int .i64 x127v110),(.int .i64 x127v111),(.int .i64 x127v112),(.int .i64 x127v113),(.int .i64 x127v114),(.int .i64 x127v115),(.int .i64 x127v116),(.int .i64 x127v117),(.int .i64 x127v118),(.int .i64 x127v119)]) /\
 (∃ S35 : World -> Prop,(∀ x,S35 x -> S34 x) /\ S35 w101 /\
 (RDSB PG (do eqGuard .eql 24 (.tmp 127) (.tmp 128) (.agg #[(.int .i64 x127v105),(.int .i64 x127v106),(.int .i64 x127v107),(.int .i64 x127v108),(.int .i64 x127v109),(.int .i64 x127v110),(.int .i64 x127v111),(.int .i64 x127v112),(.int .i64 x127v113),(.int .i64 x127v114),(.int .i64 x127v115),(.int .i64 x127v116),(.int .i64 x127v117),(.int .i64 x127v118),(.int .i64 x127v119)]) (.agg #[(.int .i64 x128v105),(.int .i64 x128v106),(.int .i64 x128v107),(.int .i64 x128v108),(.int .i64 x128v109),(.int .i64 x128v110),(.int .i64 x128v111),(.int .i64 x128v112),(.int .i64 x128v113),(.int .i64 x128v114),(.int .i64 x128v115),(.int .i64 x128v116),(.int .i64 x128v117),(.int .i64 x128v118),(.int .i64 x128v119)]); binOp .eql 24 (.agg #[(.int .i64 x127v105),(.int .i64 x127v106),(.int .i64 x127v107),(.int .i64 x127v108),(.int .i64 x127v109),(.int .i64 x127v110),(.int .i64 x127v111),(.int .i64 x127v112),(.int .i64 x127v113),(.int .i64 x127v114),(.int .i64 x127v115),(.int .i64 x127v116),(.int .i64 x127v117),(.int .i64 x127v118),(.int .i64 x127v119)]) (.agg #[(.int .i64 x128v105),(.int .i64 x128v106),(.int .i64 x128v107),(.int .i64 x128v108),(.int .i64 x128v109),(.int .i64 x128v110),(.int .i64 x128v111),(.int .i64 x128v112),(.int .i64 x128v113),(.int .i64 x128v114),(.int .i64 x128v115),(.int .i64 x128v116),(.int .i64 x128v117),(.int .i64 x128v118),(.int .i64 x128v119)])) S35 fun x129v7 =>
 LETB x129v7 fun fits42 =>
 R7 fits42 w101))))
 (LETB false fun fits43 =>
 R7 fits43 (w100.drew)))
 (LETB false fun fits44 =>
 R7 fits44 (w100.drew)))
 (LETB false fun fits45 =>
 R7 fits45 (w100.drew)))
 (LETB false fun fits46 =>
 R7 fits46 (w100.drew)))) /\
 (∀ (fits47 : Bool) (w102 : World),R7 fits47 w102 -> (RDI PG (loadVar 39 (a7v6.add 0)) .i64 (w102.drew) fun x132v7 =>
 IFB (x132v7 == 3)
 (RDI PG (loadVar 48 (a6v5.add 2)) .i64 (w102.drew) fun x136v7 =>
 IFB (x136v7 == 1)
 (RDI PG (loadVar 48 (a7v6.add 2)) .i64 (w102.drew) fun x141v7 =>
 IFB (x141v7 == 2)
 (RD PG (loadVar 28 (a6v5.add 3)) (w102.drew) fun v120 =>
 ∃ x146v14 : Int,∃ x146v15 : Int,v120 = (.agg #[(.int .u64 x146v14),(.int .u64 x146v15)]) /\
 (RD PG (loadVar 28 (a8v7.add 0)) (w102.drew) fun v121 =>
 ∃ x148v14 : Int,∃ x148v15 : Int,v121 = (.agg #[(.int .u64 x148v14),(.int .u64 x148v15)]) /\
 (RDB PG (do eqGuard .eql 28 (.tmp 146) (.tmp 148) (.agg #[(.int .u64 x146v14),(.int .u64 x146v15)]) (.agg #[(.int .u64 x148v14),(.int .u64 x148v15)]); binOp .eql 28 (.agg #[(.int .u64 x146v14),(.int .u64 x146v15)]) (.agg #[(.int .u64 x148v14),(.int .u64 x148v15)])) (w102.drew) fun x149v7 =>
 IFB x149v7
 (RD PG (loadVar 28 (a7v6.add 3)) (w102.drew) fun v122 =>
 ∃ x153v14 : Int,∃ x153v15 : Int,v122 = (.agg #[(.int .u64 x153v14),(.int .u64 x153v15)]) /\
 (RD PG (loadVar 28 (a8v7.add 0)) (w102.drew) fun v123 =>
 ∃ x155v14 : Int,∃ x155v15 : Int,v123 = (.agg #[(.int .u64 x155v14),(.int .u64 x155v15)]) /\
 (RDB PG (do eqGuard .eql 28 (.tmp 153) (.tmp 155) (.agg #[(.int .u64 x153v14),(.int .u64 x153v15)]) (.agg #[(.int .u64 x155v14),(.int .u64 x155v15)]); binOp .eql 28 (.agg #[(.int .u64 x153v14),(.int .u64 x153v15)]) (.agg #[(.int .u64 x155v14),(.int .u64 x155v15)])) (w102.drew) fun x156v7 =>
 IFB x156v7
 (NILC x15 fun a160v7 =>
 RDP PG (loadVar 34 (a160v7.add 0)) (w102.drew) fun x162v7 =>
 NILC x162v7 fun a163v7 =>
 RD PG (loadVar 56 (a163v7.add 0)) (w102.drew) fun v124 =>
 ∃ x165v63 : Int,∃ x165v64 : Int,∃ x165v65 : Int,∃ x165v66 : Int,∃ x165v67 : Int,∃ x165v68 : Int,∃ x165v69 : Int,∃ x165v70 : Int,∃ x165v71 : Int,v124 = (.agg #[(.int .u64 x165v63),(.int .u64 x165v64),(.int .u64 x165v65),(.int .u64 x165v66),(.int .u64 x165v67),(.int .u64 x165v68),(.int .u64 x165v69),(.int .u64 x165v70),(.int .u32 x165v71)]) /\
 (RD PG (loadVar 56 a8v7) (w102.drew) fun v125 =>
 ∃ x166v63 : Int,∃ x166v64 : Int,∃ x166v65 : Int,∃ x166v66 : Int,∃ x166v67 : Int,∃ x166v68 : Int,∃ x166v69 : Int,∃ x166v70 : Int,∃ x166v71 : Int,v125 = (.agg #[(.int .u64 x166v63),(.int .u64 x166v64),(.int .u64 x166v65),(.int .u64 x166v66),(.int .u64 x166v67),(.int .u64 x166v68),(.int .u64 x166v69),(.int .u64 x166v70),(.int .u32 x166v71)]) /\
 (RDB PG (do eqGuard .eql 56 (.tmp 165) (.tmp 166) (.agg #[(.int .u64 x165v63),(.int .u64 x165v64),(.int .u64 x165v65),(.int .u64 x165v66),(.int .u64 x165v67),(.int .u64 x165v68),(.int .u64 x165v69),(.int .u64 x165v70),(.int .u32 x165v71)]) (.agg #[(.int .u64 x166v63),(.int .u64 x166v64),(.int .u64 x166v65),(.int .u64 x166v66),(.int .u64 x166v67),(.int .u64 x166v68),(.int .u64 x166v69),(.int .u64 x166v70),(.int .u32 x166v71)]); binOp .eql 56 (.agg #[(.int .u64 x165v63),(.int .u64 x165v64),(.int .u64 x165v65),(.int .u64 x165v66),(.int .u64 x165v67),(.int .u64 x165v68),(.int .u64 x165v69),(.int .u64 x165v70),(.int .u32 x165v71)]) (.agg #[(.int .u64 x166v63),(.int .u64 x166v64),(.int .u64 x166v65),(.int .u64 x166v66),(.int .u64 x166v67),(.int .u64 x166v68),(.int .u64 x166v69),(.int .u64 x166v70),(.int .u32 x166v71)])) (w102.drew) fun x167v7 =>
 IFB x167v7
 (NILC x15 fun a171v7 =>
 RDP PG (loadVar 34 (a171v7.add 1)) (w102.drew) fun x173v7 =>
 NILC x173v7 fun a174v7 =>
 RD PG (loadVar 56 (a174v7.add 0)) (w102.drew) fun v126 =>
 ∃ x176v63 : Int,∃ x176v64 : Int,∃ x176v65 : Int,∃ x176v66 : Int,∃ x176v67 : Int,∃ x176v68 : Int,∃ x176v69 : Int,∃ x176v70 : Int,∃ x176v71 : Int,v126 = (.agg #[(.int .u64 x176v63),(.int .u64 x176v64),(.int .u64 x176v65),(.int .u64 x176v66),(.int .u64 x176v67),(.int .u64 x176v68),(.int .u64 x176v69),(.int .u64 x176v70),(.int .u32 x176v71)]) /\
 (RD PG (loadVar 56 a8v7) (w102.drew) fun v127 =>
 ∃ x177v63 : Int,∃ x177v64 : Int,∃ x177v65 : Int,∃ x177v66 : Int,∃ x177v67 : Int,∃ x177v68 : Int,∃ x177v69 : Int,∃ x177v70 : Int,∃ x177v71 : Int,v127 = (.agg #[(.int .u64 x177v63),(.int .u64 x177v64),(.int .u64 x177v65),(.int .u64 x177v66),(.int .u64 x177v67),(.int .u64 x177v68),(.int .u64 x177v69),(.int .u64 x177v70),(.int .u32 x177v71)]) /\
 (RDB PG (do eqGuard .eql 56 (.tmp 176) (.tmp 177) (.agg #[(.int .u64 x176v63),(.int .u64 x176v64),(.int .u64 x176v65),(.int .u64 x176v66),(.int .u64 x176v67),(.int .u64 x176v68),(.int .u64 x176v69),(.int .u64 x176v70),(.int .u32 x176v71)]) (.agg #[(.int .u64 x177v63),(.int .u64 x177v64),(.int .u64 x177v65),(.int .u64 x177v66),(.int .u64 x177v67),(.int .u64 x177v68),(.int .u64 x177v69),(.int .u64 x177v70),(.int .u32 x177v71)]); binOp .eql 56 (.agg #[(.int .u64 x176v63),(.int .u64 x176v64),(.int .u64 x176v65),(.int .u64 x176v66),(.int .u64 x176v67),(.int .u64 x176v68),(.int .u64 x176v69),(.int .u64 x176v70),(.int .u32 x176v71)]) (.agg #[(.int .u64 x177v63),(.int .u64 x177v64),(.int .u64 x177v65),(.int .u64 x177v66),(.int .u64 x177v67),(.int .u64 x177v68),(.int .u64 x177v69),(.int .u64 x177v70),(.int .u32 x177v71)])) (w102.drew) fun x178v7 =>
 IFB x178v7
 (IFB fits47
 (NILC x15 fun a185v7 =>
 RDP PG (loadVar 34 (a185v7.add 0)) (w102.drew) fun x187v7 =>
 CALL PG 11 [(.pointer x187v7)] (w102.drew) fun v128 w103 =>
 ∃ (x188v7 : Option Addr) (x188N7 x188C7 : Nat),v128 = (.slice x188v7 x188N7 x188C7) /\
 (IFB ((x188N7 : Int) == 1)
 (CALL PG 12 [] w103 fun v129 w104 =>
 ∃ x193v7 : Bool,v129 = (.bool x193v7) /\
 (LETB x193v7 fun x4v71 =>
 Q (.bool x4v71) w104))
 (LETB false fun x4v72 =>
 Q (.bool x4v72) w103)))
 (LETB false fun x4v73 =>
 Q (.bool x4v73) (w102.drew)))
 (LETB false fun x4v74 =>
 Q (.bool x4v74) (w102.drew)))))
 (LETB false fun x4v75 =>
 Q (.bool x4v75) (w102.drew)))))
 (LETB false fun x4v76 =>
 Q (.bool x4v76) (w102.drew)))))
 (LETB false fun x4v77 =>
 Q (.bool x4v77) (w102.drew)))))
 (LETB false fun x4v78 =>
 Q (.bool x4v78) (w102.drew)))
 (LETB false fun x4v79 =>
 Q (.bool x4v79) (w102.drew)))
 (LETB false fun x4v80 =>
 Q (.bool x4v80) (w102.drew))))))))))) /\
 (RUNA PG (Instr.alloc 53 true (.tuple #[])) w81 fun a7v7 w105 =>
 ∃ S36 : World -> Prop,(∀ x,S36 x -> S27 x) /\ S36 w105 /\
 (CALL PG 8 [(.pointer x84)] w105 fun v130 w106 =>
 ∃ x85v36 : Int,∃ x85v37 : Int,∃ x85v38 : Int,∃ x85v39 : Int,∃ x85v40 : Int,∃ x85v41 : Int,∃ x85v42 : Int,∃ x85v43 : Int,∃ x85v44 : Int,∃ x85v45 : Int,∃ x85v46 : Int,∃ x85v47 : Int,∃ x85v48 : Bool,∃ x85v49 : Bool,∃ x85v50 : Int,∃ x85v51 : Int,∃ x85v52 : Int,∃ x85v53 : Int,v130 = (.agg #[(.int .i64 x85v36),(.int .i64 x85v37),(.int .i64 x85v38),(.int .u64 x85v39),(.int .u64 x85v40),(.int .i64 x85v41),(.int .u16 x85v42),(.int .u16 x85v43),(.int .u64 x85v44),(.int .u64 x85v45),(.int .u64 x85v46),(.int .u64 x85v47),(.bool x85v48),(.bool x85v49),(.int .i64 x85v50),(.int .i64 x85v51),(.int .i64 x85v52),(.int .i64 x85v53)]) /\
 (∃ S37 : World -> Prop,(∀ x,S37 x -> S36 x) /\ S37 w106 /\
 (CALL PG 8 [(.pointer x89)] w106 fun v131 w107 =>
 ∃ x90v126 : Int,∃ x90v127 : Int,∃ x90v128 : Int,∃ x90v129 : Int,∃ x90v130 : Int,∃ x90v131 : Int,∃ x90v132 : Int,∃ x90v133 : Int,∃ x90v134 : Int,∃ x90v135 : Int,∃ x90v136 : Int,∃ x90v137 : Int,∃ x90v138 : Bool,∃ x90v139 : Bool,∃ x90v140 : Int,∃ x90v141 : Int,∃ x90v142 : Int,∃ x90v143 : Int,v131 = (.agg #[(.int .i64 x90v126),(.int .i64 x90v127),(.int .i64 x90v128),(.int .u64 x90v129),(.int .u64 x90v130),(.int .i64 x90v131),(.int .u16 x90v132),(.int .u16 x90v133),(.int .u64 x90v134),(.int .u64 x90v135),(.int .u64 x90v136),(.int .u64 x90v137),(.bool x90v138),(.bool x90v139),(.int .i64 x90v140),(.int .i64 x90v141),(.int .i64 x90v142),(.int .i64 x90v143)]) /\
 (RUNU PG (storeVar 53 a6v5 (.agg #[(.int .i64 x85v36),(.int .i64 x85v37),(.int .i64 x85v38),(.int .u64 x85v39),(.int .u64 x85v40),(.int .i64 x85v41),(.int .u16 x85v42),(.int .u16 x85v43),(.int .u64 x85v44),(.int .u64 x85v45),(.int .u64 x85v46),(.int .u64 x85v47),(.bool x85v48),(.bool x85v49),(.int .i64 x85v50),(.int .i64 x85v51),(.int .i64 x85v52),(.int .i64 x85v53)])) w107 fun w108 =>
 RUNU PG (storeVar 53 a7v7 (.agg #[(.int .i64 x90v126),(.int .i64 x90v127),(.int .i64 x90v128),(.int .u64 x90v129),(.int .u64 x90v130),(.int .i64 x90v131),(.int .u16 x90v132),(.int .u16 x90v133),(.int .u64 x90v134),(.int .u64 x90v135),(.int .u64 x90v136),(.int .u64 x90v137),(.bool x90v138),(.bool x90v139),(.int .i64 x90v140),(.int .i64 x90v141),(.int .i64 x90v142),(.int .i64 x90v143)])) w108 fun w109 =>
 RDI PG (loadVar 25 (a3.add 0)) .u64 w109 fun x92v8 =>
 RDI PG (loadVar 25 (a3.add 1)) .u64 w109 fun x94v8 =>
 CALL PG 9 [(.int .u64 x92v8),(.int .u64 x94v8)] w109 fun v132 w110 =>
 ∃ x95v72 : Int,∃ x95v73 : Int,∃ x95v74 : Int,∃ x95v75 : Int,∃ x95v76 : Int,∃ x95v77 : Int,∃ x95v78 : Int,∃ x95v79 : Int,∃ x95v80 : Int,v132 = (.agg #[(.int .u64 x95v72),(.int .u64 x95v73),(.int .u64 x95v74),(.int .u64 x95v75),(.int .u64 x95v76),(.int .u64 x95v77),(.int .u64 x95v78),(.int .u64 x95v79),(.int .u32 x95v80)]) /\
 (RUNA PG (Instr.alloc 56 true (.tuple #[])) w110 fun a8v8 w111 =>
 RUNU PG (storeVar 56 a8v8 (.agg #[(.int .u64 x95v72),(.int .u64 x95v73),(.int .u64 x95v74),(.int .u64 x95v75),(.int .u64 x95v76),(.int .u64 x95v77),(.int .u64 x95v78),(.int .u64 x95v79),(.int .u32 x95v80)])) w111 fun w112 =>
 ∃ R8 : Bool -> World -> Prop,
 (∃ S38 : World -> Prop,S38 (w112.drew) /\
 (RDSI PG (loadVar 49 ((a6v5.add 5).add 1)) .u16 S38 fun x98v8 =>
 RDSI PG (loadVar 49 ((a7v7.add 5).add 2)) .u16 S38 fun x101v8 =>
 IFB (x98v8 == x101v8)
 (RDSI PG (loadVar 49 ((a6v5.add 5).add 2)) .u16 S38 fun x106v8 =>
 RDSI PG (loadVar 49 ((a7v7.add 5).add 1)) .u16 S38 fun x109v8 =>
 IFB (x106v8 == x109v8)
 (RDSI PG (loadVar 3 (a6v5.add 15)) .i64 S38 fun x114v8 =>
 IFB (x114v8 == 1)
 (RDSI PG (loadVar 3 (a7v7.add 15)) .i64 S38 fun x119v8 =>
 IFB (x119v8 == 1)
 (NILC x15 fun a124v8 =>
 RDSP PG (loadVar 34 (a124v8.add 0)) S38 fun x126v8 =>
 RDS PG (loadVar 24 a2) S38 fun v133 =>
 ∃ x128v120 : Int,∃ x128v121 : Int,∃ x128v122 : Int,∃ x128v123 : Int,∃ x128v124 : Int,∃ x128v125 : Int,∃ x128v126 : Int,∃ x128v127 : Int,∃ x128v128 : Int,∃ x128v129 : Int,∃ x128v130 : Int,∃ x128v131 : Int,∃ x128v132 : Int,∃ x128v133 : Int,∃ x128v134 : Int,v133 = (.agg #[(.int .i64 x128v120),(.int .i64 x128v121),(.int .i64 x128v122),(.int .i64 x128v123),(.int .i64 x128v124),(.int .i64 x128v125),(.int .i64 x128v126),(.int .i64 x128v127),(.int .i64 x128v128),(.int .i64 x128v129),(.int .i64 x128v130),(.int .i64 x128v131),(.int .i64 x128v132),(.int .i64 x128v133),(.int .i64 x128v134)]) /\
 (CALL PG 10 [(.pointer x126v8)] (w112.drew) fun v134 w113 =>
 ∃ x127v120 : Int,∃ x127v121 : Int,∃ x127v122 : Int,∃ x127v123 : Int,∃ x127v124 : Int,∃ x127v125 : Int,∃ x127v126 : Int,∃ x127v127 : Int,∃ x127v128 : Int,∃ x127v129 : Int,∃ x127v130 : Int,∃ x127v131 : Int,∃ x127v132 : Int,∃ x127v133 : Int,∃ x127v134 : Int,v134 = (.agg #[(.int .i64 x127v120),(.int .i64 x127v121),(.int .i64 x127v122),(.int .i64 x127v123),(.int .i64 x127v124),(.int .i64 x127v125),(.int .i64 x127v126),(.int .i64 x127v127),(.int .i64 x127v128),(.int .i64 x127v129),(.int .i64 x127v130),(.int .i64 x127v131),(.int .i64 x127v132),(.int .i64 x127v133),(.int .i64 x127v134)]) /\
 (∃ S39 : World -> Prop,(∀ x,S39 x -> S38 x) /\ S39 w113 /\
 (RDSB PG (do eqGuard .eql 24 (.tmp 127) (.tmp 128) (.agg #[(.int .i64 x127v120),(.int .i64 x127v121),(.int .i64 x127v122),(.int .i64 x127v123),(.int .i64 x127v124),(.int .i64 x127v125),(.int .i64 x127v126),(.int .i64 x127v127),(.int .i64 x127v128),(.int .i64 x127v129),(.int .i64 x127v130),(.int .i64 x127v131),(.int .i64 x127v132),(.int .i64 x127v133),(.int .i64 x127v134)]) (.agg #[(.int .i64 x128v120),(.int .i64 x128v121),(.int .i64 x128v122),(.int .i64 x128v123),(.int .i64 x128v124),(.int .i64 x128v125),(.int .i64 x128v126),(.int .i64 x128v127),(.int .i64 x128v128),(.int .i64 x128v129),(.int .i64 x128v130),(.int .i64 x128v131),(.int .i64 x128v132),(.int .i64 x128v133),(.int .i64 x128v134)]); binOp .eql 24 (.agg #[(.int .i64 x127v120),(.int .i64 x127v121),(.int .i64 x127v122),(.int .i64 x127v123),(.int .i64 x127v124),(.int .i64 x127v125),(.int .i64 x127v126),(.int .i64 x127v127),(.int .i64 x127v128),(.int .i64 x127v129),(.int .i64 x127v130),(.int .i64 x127v131),(.int .i64 x127v132),(.int .i64 x127v133),(.int .i64 x127v134)]) (.agg #[(.int .i64 x128v120),(.int .i64 x128v121),(.int .i64 x128v122),(.int .i64 x128v123),(.int .i64 x128v124),(.int .i64 x128v125),(.int .i64 x128v126),(.int .i64 x128v127),(.int .i64 x128v128),(.int .i64 x128v129),(.int .i64 x128v130),(.int .i64 x128v131),(.int .i64 x128v132),(.int .i64 x128v133),(.int .i64 x128v134)])) S39 fun x129v8 =>
 LETB x129v8 fun fits48 =>
 R8 fits48 w113))))
 (LETB false fun fits49 =>
 R8 fits49 (w112.drew)))
 (LETB false fun fits50 =>
 R8 fits50 (w112.drew)))
 (LETB false fun fits51 =>
 R8 fits51 (w112.drew)))
 (LETB false fun fits52 =>
 R8 fits52 (w112.drew)))) /\
 (∀ (fits53 : Bool) (w114 : World),R8 fits53 w114 -> (RDI PG (loadVar 39 (a7v7.add 0)) .i64 (w114.drew) fun x132v8 =>
 IFB (x132v8 == 3)
 (RDI PG (loadVar 48 (a6v5.add 2)) .i64 (w114.drew) fun x136v8 =>
 IFB (x136v8 == 1)
 (RDI PG (loadVar 48 (a7v7.add 2)) .i64 (w114.drew) fun x141v8 =>
 IFB (x141v8 == 2)
 (RD PG (loadVar 28 (a6v5.add 3)) (w114.drew) fun v135 =>
 ∃ x146v16 : Int,∃ x146v17 : Int,v135 = (.agg #[(.int .u64 x146v16),(.int .u64 x146v17)]) /\
 (RD PG (loadVar 28 (a8v8.add 0)) (w114.drew) fun v136 =>
 ∃ x148v16 : Int,∃ x148v17 : Int,v136 = (.agg #[(.int .u64 x148v16),(.int .u64 x148v17)]) /\
 (RDB PG (do eqGuard .eql 28 (.tmp 146) (.tmp 148) (.agg #[(.int .u64 x146v16),(.int .u64 x146v17)]) (.agg #[(.int .u64 x148v16),(.int .u64 x148v17)]); binOp .eql 28 (.agg #[(.int .u64 x146v16),(.int .u64 x146v17)]) (.agg #[(.int .u64 x148v16),(.int .u64 x148v17)])) (w114.drew) fun x149v8 =>
 IFB x149v8
 (RD PG (loadVar 28 (a7v7.add 3)) (w114.drew) fun v137 =>
 ∃ x153v16 : Int,∃ x153v17 : Int,v137 = (.agg #[(.int .u64 x153v16),(.int .u64 x153v17)]) /\
 (RD PG (loadVar 28 (a8v8.add 0)) (w114.drew) fun v138 =>
 ∃ x155v16 : Int,∃ x155v17 : Int,v138 = (.agg #[(.int .u64 x155v16),(.int .u64 x155v17)]) /\
 (RDB PG (do eqGuard .eql 28 (.tmp 153) (.tmp 155) (.agg #[(.int .u64 x153v16),(.int .u64 x153v17)]) (.agg #[(.int .u64 x155v16),(.int .u64 x155v17)]); binOp .eql 28 (.agg #[(.int .u64 x153v16),(.int .u64 x153v17)]) (.agg #[(.int .u64 x155v16),(.int .u64 x155v17)])) (w114.drew) fun x156v8 =>
 IFB x156v8
 (NILC x15 fun a160v8 =>
 RDP PG (loadVar 34 (a160v8.add 0)) (w114.drew) fun x162v8 =>
 NILC x162v8 fun a163v8 =>
 RD PG (loadVar 56 (a163v8.add 0)) (w114.drew) fun v139 =>
 ∃ x165v72 : Int,∃ x165v73 : Int,∃ x165v74 : Int,∃ x165v75 : Int,∃ x165v76 : Int,∃ x165v77 : Int,∃ x165v78 : Int,∃ x165v79 : Int,∃ x165v80 : Int,v139 = (.agg #[(.int .u64 x165v72),(.int .u64 x165v73),(.int .u64 x165v74),(.int .u64 x165v75),(.int .u64 x165v76),(.int .u64 x165v77),(.int .u64 x165v78),(.int .u64 x165v79),(.int .u32 x165v80)]) /\
 (RD PG (loadVar 56 a8v8) (w114.drew) fun v140 =>
 ∃ x166v72 : Int,∃ x166v73 : Int,∃ x166v74 : Int,∃ x166v75 : Int,∃ x166v76 : Int,∃ x166v77 : Int,∃ x166v78 : Int,∃ x166v79 : Int,∃ x166v80 : Int,v140 = (.agg #[(.int .u64 x166v72),(.int .u64 x166v73),(.int .u64 x166v74),(.int .u64 x166v75),(.int .u64 x166v76),(.int .u64 x166v77),(.int .u64 x166v78),(.int .u64 x166v79),(.int .u32 x166v80)]) /\
 (RDB PG (do eqGuard .eql 56 (.tmp 165) (.tmp 166) (.agg #[(.int .u64 x165v72),(.int .u64 x165v73),(.int .u64 x165v74),(.int .u64 x165v75),(.int .u64 x165v76),(.int .u64 x165v77),(.int .u64 x165v78),(.int .u64 x165v79),(.int .u32 x165v80)]) (.agg #[(.int .u64 x166v72),(.int .u64 x166v73),(.int .u64 x166v74),(.int .u64 x166v75),(.int .u64 x166v76),(.int .u64 x166v77),(.int .u64 x166v78),(.int .u64 x166v79),(.int .u32 x166v80)]); binOp .eql 56 (.agg #[(.int .u64 x165v72),(.int .u64 x165v73),(.int .u64 x165v74),(.int .u64 x165v75),(.int .u64 x165v76),(.int .u64 x165v77),(.int .u64 x165v78),(.int .u64 x165v79),(.int .u32 x165v80)]) (.agg #[(.int .u64 x166v72),(.int .u64 x166v73),(.int .u64 x166v74),(.int .u64 x166v75),(.int .u64 x166v76),(.int .u64 x166v77),(.int .u64 x166v78),(.int .u64 x166v79),(.int .u32 x166v80)])) (w114.drew) fun x167v8 =>
 IFB x167v8
 (NILC x15 fun a171v8 =>
 RDP PG (loadVar 34 (a171v8.add 1)) (w114.drew) fun x173v8 =>
 NILC x173v8 fun a174v8 =>
 RD PG (loadVar 56 (a174v8.add 0)) (w114.drew) fun v141 =>
 ∃ x176v72 : Int,∃ x176v73 : Int,∃ x176v74 : Int,∃ x176v75 : Int,∃ x176v76 : Int,∃ x176v77 : Int,∃ x176v78 : Int,∃ x176v79 : Int,∃ x176v80 : Int,v141 = (.agg #[(.int .u64 x176v72),(.int .u64 x176v73),(.int .u64 x176v74),(.int .u64 x176v75),(.int .u64 x176v76),(.int .u64 x176v77),(.int .u64 x176v78),(.int .u64 x176v79),(.int .u32 x176v80)]) /\
 (RD PG (loadVar 56 a8v8) (w114.drew) fun v142 =>
 ∃ x177v72 : Int,∃ x177v73 : Int,∃ x177v74 : Int,∃ x177v75 : Int,∃ x177v76 : Int,∃ x177v77 : Int,∃ x177v78 : Int,∃ x177v79 : Int,∃ x177v80 : Int,v142 = (.agg #[(.int .u64 x177v72),(.int .u64 x177v73),(.int .u64 x177v74),(.int .u64 x177v75),(.int .u64 x177v76),(.int .u64 x177v77),(.int .u64 x177v78),(.int .u64 x177v79),(.int .u32 x177v80)]) /\
 (RDB PG (do eqGuard .eql 56 (.tmp 176) (.tmp 177) (.agg #[(.int .u64 x176v72),(.int .u64 x176v73),(.int .u64 x176v74),(.int .u64 x176v75),(.int .u64 x176v76),(.int .u64 x176v77),(.int .u64 x176v78),(.int .u64 x176v79),(.int .u32 x176v80)]) (.agg #[(.int .u64 x177v72),(.int .u64 x177v73),(.int .u64 x177v74),(.int .u64 x177v75),(.int .u64 x177v76),(.int .u64 x177v77),(.int .u64 x177v78),(.int .u64 x177v79),(.int .u32 x177v80)]); binOp .eql 56 (.agg #[(.int .u64 x176v72),(.int .u64 x176v73),(.int .u64 x176v74),(.int .u64 x176v75),(.int .u64 x176v76),(.int .u64 x176v77),(.int .u64 x176v78),(.int .u64 x176v79),(.int .u32 x176v80)]) (.agg #[(.int .u64 x177v72),(.int .u64 x177v73),(.int .u64 x177v74),(.int .u64 x177v75),(.int .u64 x177v76),(.int .u64 x177v77),(.int .u64 x177v78),(.int .u64 x177v79),(.int .u32 x177v80)])) (w114.drew) fun x178v8 =>
 IFB x178v8
 (IFB fits53
 (NILC x15 fun a185v8 =>
 RDP PG (loadVar 34 (a185v8.add 0)) (w114.drew) fun x187v8 =>
 CALL PG 11 [(.pointer x187v8)] (w114.drew) fun v143 w115 =>
 ∃ (x188v8 : Option Addr) (x188N8 x188C8 : Nat),v143 = (.slice x188v8 x188N8 x188C8) /\
 (IFB ((x188N8 : Int) == 1)
 (CALL PG 12 [] w115 fun v144 w116 =>
 ∃ x193v8 : Bool,v144 = (.bool x193v8) /\
 (LETB x193v8 fun x4v81 =>
 Q (.bool x4v81) w116))
 (LETB false fun x4v82 =>
 Q (.bool x4v82) w115)))
 (LETB false fun x4v83 =>
 Q (.bool x4v83) (w114.drew)))
 (LETB false fun x4v84 =>
 Q (.bool x4v84) (w114.drew)))))
 (LETB false fun x4v85 =>
 Q (.bool x4v85) (w114.drew)))))
 (LETB false fun x4v86 =>
 Q (.bool x4v86) (w114.drew)))))
 (LETB false fun x4v87 =>
 Q (.bool x4v87) (w114.drew)))))
 (LETB false fun x4v88 =>
 Q (.bool x4v88) (w114.drew)))
 (LETB false fun x4v89 =>
 Q (.bool x4v89) (w114.drew)))
 (LETB false fun x4v90 =>
 Q (.bool x4v90) (w114.drew)))))))))))) /\
 (RUNA PG (Instr.alloc 53 true (.tuple #[])) (w10.drew) fun a7v8 w117 =>
 ∃ S40 : World -> Prop,(∀ x,S40 x -> S x) /\ S40 w117 /\
 ((CALL PG 8 [(.pointer x84)] w117 fun v145 w118 =>
 ∃ x85v54 : Int,∃ x85v55 : Int,∃ x85v56 : Int,∃ x85v57 : Int,∃ x85v58 : Int,∃ x85v59 : Int,∃ x85v60 : Int,∃ x85v61 : Int,∃ x85v62 : Int,∃ x85v63 : Int,∃ x85v64 : Int,∃ x85v65 : Int,∃ x85v66 : Bool,∃ x85v67 : Bool,∃ x85v68 : Int,∃ x85v69 : Int,∃ x85v70 : Int,∃ x85v71 : Int,v145 = (.agg #[(.int .i64 x85v54),(.int .i64 x85v55),(.int .i64 x85v56),(.int .u64 x85v57),(.int .u64 x85v58),(.int .i64 x85v59),(.int .u16 x85v60),(.int .u16 x85v61),(.int .u64 x85v62),(.int .u64 x85v63),(.int .u64 x85v64),(.int .u64 x85v65),(.bool x85v66),(.bool x85v67),(.int .i64 x85v68),(.int .i64 x85v69),(.int .i64 x85v70),(.int .i64 x85v71)]) /\
 (∃ S41 : World -> Prop,(∀ x,S41 x -> S40 x) /\ S41 w118 /\
 ((CALL PG 8 [(.pointer x89)] w118 fun v146 w119 =>
 ∃ x90v144 : Int,∃ x90v145 : Int,∃ x90v146 : Int,∃ x90v147 : Int,∃ x90v148 : Int,∃ x90v149 : Int,∃ x90v150 : Int,∃ x90v151 : Int,∃ x90v152 : Int,∃ x90v153 : Int,∃ x90v154 : Int,∃ x90v155 : Int,∃ x90v156 : Bool,∃ x90v157 : Bool,∃ x90v158 : Int,∃ x90v159 : Int,∃ x90v160 : Int,∃ x90v161 : Int,v146 = (.agg #[(.int .i64 x90v144),(.int .i64 x90v145),(.int .i64 x90v146),(.int .u64 x90v147),(.int .u64 x90v148),(.int .i64 x90v149),(.int .u16 x90v150),(.int .u16 x90v151),(.int .u64 x90v152),(.int .u64 x90v153),(.int .u64 x90v154),(.int .u64 x90v155),(.bool x90v156),(.bool x90v157),(.int .i64 x90v158),(.int .i64 x90v159),(.int .i64 x90v160),(.int .i64 x90v161)]) /\
 (∃ S42 : World -> Prop,(∀ x,S42 x -> S41 x) /\ S42 w119 /\
 (RUNA PG (Instr.alloc 53 true (.tuple #[])) w119 fun a6v6 w120 =>
 ∃ S43 : World -> Prop,(∀ x,S43 x -> S42 x) /\ S43 w120 /\
 (RUNU PG (storeVar 53 a6v6 (.agg #[(.int .i64 x85v54),(.int .i64 x85v55),(.int .i64 x85v56),(.int .u64 x85v57),(.int .u64 x85v58),(.int .i64 x85v59),(.int .u16 x85v60),(.int .u16 x85v61),(.int .u64 x85v62),(.int .u64 x85v63),(.int .u64 x85v64),(.int .u64 x85v65),(.bool x85v66),(.bool x85v67),(.int .i64 x85v68),(.int .i64 x85v69),(.int .i64 x85v70),(.int .i64 x85v71)])) w120 fun w121 =>
 RUNU PG (storeVar 53 a7v8 (.agg #[(.int .i64 x90v144),(.int .i64 x90v145),(.int .i64 x90v146),(.int .u64 x90v147),(.int .u64 x90v148),(.int .i64 x90v149),(.int .u16 x90v150),(.int .u16 x90v151),(.int .u64 x90v152),(.int .u64 x90v153),(.int .u64 x90v154),(.int .u64 x90v155),(.bool x90v156),(.bool x90v157),(.int .i64 x90v158),(.int .i64 x90v159),(.int .i64 x90v160),(.int .i64 x90v161)])) w121 fun w122 =>
 RDI PG (loadVar 25 (a3.add 0)) .u64 w122 fun x92v9 =>
 RDI PG (loadVar 25 (a3.add 1)) .u64 w122 fun x94v9 =>
 CALL PG 9 [(.int .u64 x92v9),(.int .u64 x94v9)] w122 fun v147 w123 =>
 ∃ x95v81 : Int,∃ x95v82 : Int,∃ x95v83 : Int,∃ x95v84 : Int,∃ x95v85 : Int,∃ x95v86 : Int,∃ x95v87 : Int,∃ x95v88 : Int,∃ x95v89 : Int,v147 = (.agg #[(.int .u64 x95v81),(.int .u64 x95v82),(.int .u64 x95v83),(.int .u64 x95v84),(.int .u64 x95v85),(.int .u64 x95v86),(.int .u64 x95v87),(.int .u64 x95v88),(.int .u32 x95v89)]) /\
 (RUNA PG (Instr.alloc 56 true (.tuple #[])) w123 fun a8v9 w124 =>
 RUNU PG (storeVar 56 a8v9 (.agg #[(.int .u64 x95v81),(.int .u64 x95v82),(.int .u64 x95v83),(.int .u64 x95v84),(.int .u64 x95v85),(.int .u64 x95v86),(.int .u64 x95v87),(.int .u64 x95v88),(.int .u32 x95v89)])) w124 fun w125 =>
 ∃ R9 : Bool -> World -> Prop,
 (∃ S44 : World -> Prop,S44 (w125.drew) /\
 (RDSI PG (loadVar 49 ((a6v6.add 5).add 1)) .u16 S44 fun x98v9 =>
 RDSI PG (loadVar 49 ((a7v8.add 5).add 2)) .u16 S44 fun x101v9 =>
 IFB (x98v9 == x101v9)
 (RDSI PG (loadVar 49 ((a6v6.add 5).add 2)) .u16 S44 fun x106v9 =>
 RDSI PG (loadVar 49 ((a7v8.add 5).add 1)) .u16 S44 fun x109v9 =>
 IFB (x106v9 == x109v9)
 (RDSI PG (loadVar 3 (a6v6.add 15)) .i64 S44 fun x114v9 =>
 IFB (x114v9 == 1)
 (RDSI PG (loadVar 3 (a7v8.add 15)) .i64 S44 fun x119v9 =>
 IFB (x119v9 == 1)
 (NILC x15 fun a124v9 =>
 RDSP PG (loadVar 34 (a124v9.add 0)) S44 fun x126v9 =>
 RDS PG (loadVar 24 a2) S44 fun v148 =>
 ∃ x128v135 : Int,∃ x128v136 : Int,∃ x128v137 : Int,∃ x128v138 : Int,∃ x128v139 : Int,∃ x128v140 : Int,∃ x128v141 : Int,∃ x128v142 : Int,∃ x128v143 : Int,∃ x128v144 : Int,∃ x128v145 : Int,∃ x128v146 : Int,∃ x128v147 : Int,∃ x128v148 : Int,∃ x128v149 : Int,v148 = (.agg #[(.int .i64 x128v135),(.int .i64 x128v136),(.int .i64 x128v137),(.int .i64 x128v138),(.int .i64 x128v139),(.int .i64 x128v140),(.int .i64 x128v141),(.int .i64 x128v142),(.int .i64 x128v143),(.int .i64 x128v144),(.int .i64 x128v145),(.int .i64 x128v146),(.int .i64 x128v147),(.int .i64 x128v148),(.int .i64 x128v149)]) /\
 (CALL PG 10 [(.pointer x126v9)] (w125.drew) fun v149 w126 =>
 ∃ x127v135 : Int,∃ x127v136 : Int,∃ x127v137 : Int,∃ x127v138 : Int,∃ x127v139 : Int,∃ x127v140 : Int,∃ x127v141 : Int,∃ x127v142 : Int,∃ x127v143 : Int,∃ x127v144 : Int,∃ x127v145 : Int,∃ x127v146 : Int,∃ x127v147 : Int,∃ x127v148 : Int,∃ x127v149 : Int,v149 = (.agg #[(.int .i64 x127v135),(.int .i64 x127v136),(.int .i64 x127v137),(.int .i64 x127v138),(.int .i64 x127v139),(.int .i64 x127v140),(.int .i64 x127v141),(.int .i64 x127v142),(.int .i64 x127v143),(.int .i64 x127v144),(.int .i64 x127v145),(.int .i64 x127v146),(.int .i64 x127v147),(.int .i64 x127v148),(.int .i64 x127v149)]) /\
 (∃ S45 : World -> Prop,(∀ x,S45 x -> S44 x) /\ S45 w126 /\
 (RDSB PG (do eqGuard .eql 24 (.tmp 127) (.tmp 128) (.agg #[(.int .i64 x127v135),(.int .i64 x127v136),(.int .i64 x127v137),(.int .i64 x127v138),(.int .i64 x127v139),(.int .i64 x127v140),(.int .i64 x127v141),(.int .i64 x127v142),(.int .i64 x127v143),(.int .i64 x127v144),(.int .i64 x127v145),(.int .i64 x127v146),(.int .i64 x127v147),(.int .i64 x127v148),(.int .i64 x127v149)]) (.agg #[(.int .i64 x128v135),(.int .i64 x128v136),(.int .i64 x128v137),(.int .i64 x128v138),(.int .i64 x128v139),(.int .i64 x128v140),(.int .i64 x128v141),(.int .i64 x128v142),(.int .i64 x128v143),(.int .i64 x128v144),(.int .i64 x128v145),(.int .i64 x128v146),(.int .i64 x128v147),(.int .i64 x128v148),(.int .i64 x128v149)]); binOp .eql 24 (.agg #[(.int .i64 x127v135),(.int .i64 x127v136),(.int .i64 x127v137),(.int .i64 x127v138),(.int .i64 x127v139),(.int .i64 x127v140),(.int .i64 x127v141),(.int .i64 x127v142),(.int .i64 x127v143),(.int .i64 x127v144),(.int .i64 x127v145),(.int .i64 x127v146),(.int .i64 x127v147),(.int .i64 x127v148),(.int .i64 x127v149)]) (.agg #[(.int .i64 x128v135),(.int .i64 x128v136),(.int .i64 x128v137),(.int .i64 x128v138),(.int .i64 x128v139),(.int .i64 x128v140),(.int .i64 x128v141),(.int .i64 x128v142),(.int .i64 x128v143),(.int .i64 x128v144),(.int .i64 x128v145),(.int .i64 x128v146),(.int .i64 x128v147),(.int .i64 x128v148),(.int .i64 x128v149)])) S45 fun x129v9 =>
 LETB x129v9 fun fits54 =>
 R9 fits54 w126))))
 (LETB false fun fits55 =>
 R9 fits55 (w125.drew)))
 (LETB false fun fits56 =>
 R9 fits56 (w125.drew)))
 (LETB false fun fits57 =>
 R9 fits57 (w125.drew)))
 (LETB false fun fits58 =>
 R9 fits58 (w125.drew)))) /\
 (∀ (fits59 : Bool) (w127 : World),R9 fits59 w127 -> (RDI PG (loadVar 39 (a7v8.add 0)) .i64 (w127.drew) fun x132v9 =>
 IFB (x132v9 == 3)
 (RDI PG (loadVar 48 (a6v6.add 2)) .i64 (w127.drew) fun x136v9 =>
 IFB (x136v9 == 1)
 (RDI PG (loadVar 48 (a7v8.add 2)) .i64 (w127.drew) fun x141v9 =>
 IFB (x141v9 == 2)
 (RD PG (loadVar 28 (a6v6.add 3)) (w127.drew) fun v150 =>
 ∃ x146v18 : Int,∃ x146v19 : Int,v150 = (.agg #[(.int .u64 x146v18),(.int .u64 x146v19)]) /\
 (RD PG (loadVar 28 (a8v9.add 0)) (w127.drew) fun v151 =>
 ∃ x148v18 : Int,∃ x148v19 : Int,v151 = (.agg #[(.int .u64 x148v18),(.int .u64 x148v19)]) /\
 (RDB PG (do eqGuard .eql 28 (.tmp 146) (.tmp 148) (.agg #[(.int .u64 x146v18),(.int .u64 x146v19)]) (.agg #[(.int .u64 x148v18),(.int .u64 x148v19)]); binOp .eql 28 (.agg #[(.int .u64 x146v18),(.int .u64 x146v19)]) (.agg #[(.int .u64 x148v18),(.int .u64 x148v19)])) (w127.drew) fun x149v9 =>
 IFB x149v9
 (RD PG (loadVar 28 (a7v8.add 3)) (w127.drew) fun v152 =>
 ∃ x153v18 : Int,∃ x153v19 : Int,v152 = (.agg #[(.int .u64 x153v18),(.int .u64 x153v19)]) /\
 (RD PG (loadVar 28 (a8v9.add 0)) (w127.drew) fun v153 =>
 ∃ x155v18 : Int,∃ x155v19 : Int,v153 = (.agg #[(.int .u64 x155v18),(.int .u64 x155v19)]) /\
 (RDB PG (do eqGuard .eql 28 (.tmp 153) (.tmp 155) (.agg #[(.int .u64 x153v18),(.int .u64 x153v19)]) (.agg #[(.int .u64 x155v18),(.int .u64 x155v19)]); binOp .eql 28 (.agg #[(.int .u64 x153v18),(.int .u64 x153v19)]) (.agg #[(.int .u64 x155v18),(.int .u64 x155v19)])) (w127.drew) fun x156v9 =>
 IFB x156v9
 (NILC x15 fun a160v9 =>
 RDP PG (loadVar 34 (a160v9.add 0)) (w127.drew) fun x162v9 =>
 NILC x162v9 fun a163v9 =>
 RD PG (loadVar 56 (a163v9.add 0)) (w127.drew) fun v154 =>
 ∃ x165v81 : Int,∃ x165v82 : Int,∃ x165v83 : Int,∃ x165v84 : Int,∃ x165v85 : Int,∃ x165v86 : Int,∃ x165v87 : Int,∃ x165v88 : Int,∃ x165v89 : Int,v154 = (.agg #[(.int .u64 x165v81),(.int .u64 x165v82),(.int .u64 x165v83),(.int .u64 x165v84),(.int .u64 x165v85),(.int .u64 x165v86),(.int .u64 x165v87),(.int .u64 x165v88),(.int .u32 x165v89)]) /\
 (RD PG (loadVar 56 a8v9) (w127.drew) fun v155 =>
 ∃ x166v81 : Int,∃ x166v82 : Int,∃ x166v83 : Int,∃ x166v84 : Int,∃ x166v85 : Int,∃ x166v86 : Int,∃ x166v87 : Int,∃ x166v88 : Int,∃ x166v89 : Int,v155 = (.agg #[(.int .u64 x166v81),(.int .u64 x166v82),(.int .u64 x166v83),(.int .u64 x166v84),(.int .u64 x166v85),(.int .u64 x166v86),(.int .u64 x166v87),(.int .u64 x166v88),(.int .u32 x166v89)]) /\
 (RDB PG (do eqGuard .eql 56 (.tmp 165) (.tmp 166) (.agg #[(.int .u64 x165v81),(.int .u64 x165v82),(.int .u64 x165v83),(.int .u64 x165v84),(.int .u64 x165v85),(.int .u64 x165v86),(.int .u64 x165v87),(.int .u64 x165v88),(.int .u32 x165v89)]) (.agg #[(.int .u64 x166v81),(.int .u64 x166v82),(.int .u64 x166v83),(.int .u64 x166v84),(.int .u64 x166v85),(.int .u64 x166v86),(.int .u64 x166v87),(.int .u64 x166v88),(.int .u32 x166v89)]); binOp .eql 56 (.agg #[(.int .u64 x165v81),(.int .u64 x165v82),(.int .u64 x165v83),(.int .u64 x165v84),(.int .u64 x165v85),(.int .u64 x165v86),(.int .u64 x165v87),(.int .u64 x165v88),(.int .u32 x165v89)]) (.agg #[(.int .u64 x166v81),(.int .u64 x166v82),(.int .u64 x166v83),(.int .u64 x166v84),(.int .u64 x166v85),(.int .u64 x166v86),(.int .u64 x166v87),(.int .u64 x166v88),(.int .u32 x166v89)])) (w127.drew) fun x167v9 =>
 IFB x167v9
 (NILC x15 fun a171v9 =>
 RDP PG (loadVar 34 (a171v9.add 1)) (w127.drew) fun x173v9 =>
 NILC x173v9 fun a174v9 =>
 RD PG (loadVar 56 (a174v9.add 0)) (w127.drew) fun v156 =>
 ∃ x176v81 : Int,∃ x176v82 : Int,∃ x176v83 : Int,∃ x176v84 : Int,∃ x176v85 : Int,∃ x176v86 : Int,∃ x176v87 : Int,∃ x176v88 : Int,∃ x176v89 : Int,v156 = (.agg #[(.int .u64 x176v81),(.int .u64 x176v82),(.int .u64 x176v83),(.int .u64 x176v84),(.int .u64 x176v85),(.int .u64 x176v86),(.int .u64 x176v87),(.int .u64 x176v88),(.int .u32 x176v89)]) /\
 (RD PG (loadVar 56 a8v9) (w127.drew) fun v157 =>
 ∃ x177v81 : Int,∃ x177v82 : Int,∃ x177v83 : Int,∃ x177v84 : Int,∃ x177v85 : Int,∃ x177v86 : Int,∃ x177v87 : Int,∃ x177v88 : Int,∃ x177v89 : Int,v157 = (.agg #[(.int .u64 x177v81),(.int .u64 x177v82),(.int .u64 x177v83),(.int .u64 x177v84),(.int .u64 x177v85),(.int .u64 x177v86),(.int .u64 x177v87),(.int .u64 x177v88),(.int .u32 x177v89)]) /\
 (RDB PG (do eqGuard .eql 56 (.tmp 176) (.tmp 177) (.agg #[(.int .u64 x176v81),(.int .u64 x176v82),(.int .u64 x176v83),(.int .u64 x176v84),(.int .u64 x176v85),(.int .u64 x176v86),(.int .u64 x176v87),(.int .u64 x176v88),(.int .u32 x176v89)]) (.agg #[(.int .u64 x177v81),(.int .u64 x177v82),(.int .u64 x177v83),(.int .u64 x177v84),(.int .u64 x177v85),(.int .u64 x177v86),(.int .u64 x177v87),(.int .u64 x177v88),(.int .u32 x177v89)]); binOp .eql 56 (.agg #[(.int .u64 x176v81),(.int .u64 x176v82),(.int .u64 x176v83),(.int .u64 x176v84),(.int .u64 x176v85),(.int .u64 x176v86),(.int .u64 x176v87),(.int .u64 x176v88),(.int .u32 x176v89)]) (.agg #[(.int .u64 x177v81),(.int .u64 x177v82),(.int .u64 x177v83),(.int .u64 x177v84),(.int .u64 x177v85),(.int .u64 x177v86),(.int .u64 x177v87),(.int .u64 x177v88),(.int .u32 x177v89)])) (w127.drew) fun x178v9 =>
 IFB x178v9
 (IFB fits59
 (NILC x15 fun a185v9 =>
 RDP PG (loadVar 34 (a185v9.add 0)) (w127.drew) fun x187v9 =>
 CALL PG 11 [(.pointer x187v9)] (w127.drew) fun v158 w128 =>
 ∃ (x188v9 : Option Addr) (x188N9 x188C9 : Nat),v158 = (.slice x188v9 x188N9 x188C9) /\
 (IFB ((x188N9 : Int) == 1)
 (CALL PG 12 [] w128 fun v159 w129 =>
 ∃ x193v9 : Bool,v159 = (.bool x193v9) /\
 (LETB x193v9 fun x4v91 =>
 Q (.bool x4v91) w129))
 (LETB false fun x4v92 =>
 Q (.bool x4v92) w128)))
 (LETB false fun x4v93 =>
 Q (.bool x4v93) (w127.drew)))
 (LETB false fun x4v94 =>
 Q (.bool x4v94) (w127.drew)))))
 (LETB false fun x4v95 =>
 Q (.bool x4v95) (w127.drew)))))
 (LETB false fun x4v96 =>
 Q (.bool x4v96) (w127.drew)))))
 (LETB false fun x4v97 =>
 Q (.bool x4v97) (w127.drew)))))
 (LETB false fun x4v98 =>
 Q (.bool x4v98) (w127.drew)))
 (LETB false fun x4v99 =>
 Q (.bool x4v99) (w127.drew)))
 (LETB false fun x4v100 =>
 Q (.bool x4v100) (w127.drew))))))))) /\
 (RUNA PG (Instr.alloc 53 true (.tuple #[])) w118 fun a6v7 w130 =>
 ∃ S46 : World -> Prop,(∀ x,S46 x -> S41 x) /\ S46 w130 /\
 (CALL PG 8 [(.pointer x89)] w130 fun v160 w131 =>
 ∃ x90v162 : Int,∃ x90v163 : Int,∃ x90v164 : Int,∃ x90v165 : Int,∃ x90v166 : Int,∃ x90v167 : Int,∃ x90v168 : Int,∃ x90v169 : Int,∃ x90v170 : Int,∃ x90v171 : Int,∃ x90v172 : Int,∃ x90v173 : Int,∃ x90v174 : Bool,∃ x90v175 : Bool,∃ x90v176 : Int,∃ x90v177 : Int,∃ x90v178 : Int,∃ x90v179 : Int,v160 = (.agg #[(.int .i64 x90v162),(.int .i64 x90v163),(.int .i64 x90v164),(.int .u64 x90v165),(.int .u64 x90v166),(.int .i64 x90v167),(.int .u16 x90v168),(.int .u16 x90v169),(.int .u64 x90v170),(.int .u64 x90v171),(.int .u64 x90v172),(.int .u64 x90v173),(.bool x90v174),(.bool x90v175),(.int .i64 x90v176),(.int .i64 x90v177),(.int .i64 x90v178),(.int .i64 x90v179)]) /\
 (RUNU PG (storeVar 53 a6v7 (.agg #[(.int .i64 x85v54),(.int .i64 x85v55),(.int .i64 x85v56),(.int .u64 x85v57),(.int .u64 x85v58),(.int .i64 x85v59),(.int .u16 x85v60),(.int .u16 x85v61),(.int .u64 x85v62),(.int .u64 x85v63),(.int .u64 x85v64),(.int .u64 x85v65),(.bool x85v66),(.bool x85v67),(.int .i64 x85v68),(.int .i64 x85v69),(.int .i64 x85v70),(.int .i64 x85v71)])) w131 fun w132 =>
 RUNU PG (storeVar 53 a7v8 (.agg #[(.int .i64 x90v162),(.int .i64 x90v163),(.int .i64 x90v164),(.int .u64 x90v165),(.int .u64 x90v166),(.int .i64 x90v167),(.int .u16 x90v168),(.int .u16 x90v169),(.int .u64 x90v170),(.int .u64 x90v171),(.int .u64 x90v172),(.int .u64 x90v173),(.bool x90v174),(.bool x90v175),(.int .i64 x90v176),(.int .i64 x90v177),(.int .i64 x90v178),(.int .i64 x90v179)])) w132 fun w133 =>
 RDI PG (loadVar 25 (a3.add 0)) .u64 w133 fun x92v10 =>
 RDI PG (loadVar 25 (a3.add 1)) .u64 w133 fun x94v10 =>
 CALL PG 9 [(.int .u64 x92v10),(.int .u64 x94v10)] w133 fun v161 w134 =>
 ∃ x95v90 : Int,∃ x95v91 : Int,∃ x95v92 : Int,∃ x95v93 : Int,∃ x95v94 : Int,∃ x95v95 : Int,∃ x95v96 : Int,∃ x95v97 : Int,∃ x95v98 : Int,v161 = (.agg #[(.int .u64 x95v90),(.int .u64 x95v91),(.int .u64 x95v92),(.int .u64 x95v93),(.int .u64 x95v94),(.int .u64 x95v95),(.int .u64 x95v96),(.int .u64 x95v97),(.int .u32 x95v98)]) /\
 (RUNA PG (Instr.alloc 56 true (.tuple #[])) w134 fun a8v10 w135 =>
 RUNU PG (storeVar 56 a8v10 (.agg #[(.int .u64 x95v90),(.int .u64 x95v91),(.int .u64 x95v92),(.int .u64 x95v93),(.int .u64 x95v94),(.int .u64 x95v95),(.int .u64 x95v96),(.int .u64 x95v97),(.int .u32 x95v98)])) w135 fun w136 =>
 ∃ R10 : Bool -> World -> Prop,
 (∃ S47 : World -> Prop,S47 (w136.drew) /\
 (RDSI PG (loadVar 49 ((a6v7.add 5).add 1)) .u16 S47 fun x98v10 =>
 RDSI PG (loadVar 49 ((a7v8.add 5).add 2)) .u16 S47 fun x101v10 =>
 IFB (x98v10 == x101v10)
 (RDSI PG (loadVar 49 ((a6v7.add 5).add 2)) .u16 S47 fun x106v10 =>
 RDSI PG (loadVar 49 ((a7v8.add 5).add 1)) .u16 S47 fun x109v10 =>
 IFB (x106v10 == x109v10)
 (RDSI PG (loadVar 3 (a6v7.add 15)) .i64 S47 fun x114v10 =>
 IFB (x114v10 == 1)
 (RDSI PG (loadVar 3 (a7v8.add 15)) .i64 S47 fun x119v10 =>
 IFB (x119v10 == 1)
 (NILC x15 fun a124v10 =>
 RDSP PG (loadVar 34 (a124v10.add 0)) S47 fun x126v10 =>
 RDS PG (loadVar 24 a2) S47 fun v162 =>
 ∃ x128v150 : Int,∃ x128v151 : Int,∃ x128v152 : Int,∃ x128v153 : Int,∃ x128v154 : Int,∃ x128v155 : Int,∃ x128v156 : Int,∃ x128v157 : Int,∃ x128v158 : Int,∃ x128v159 : Int,∃ x128v160 : Int,∃ x128v161 : Int,∃ x128v162 : Int,∃ x128v163 : Int,∃ x128v164 : Int,v162 = (.agg #[(.int .i64 x128v150),(.int .i64 x128v151),(.int .i64 x128v152),(.int .i64 x128v153),(.int .i64 x128v154),(.int .i64 x128v155),(.int .i64 x128v156),(.int .i64 x128v157),(.int .i64 x128v158),(.int .i64 x128v159),(.int .i64 x128v160),(.int .i64 x128v161),(.int .i64 x128v162),(.int .i64 x128v163),(.int .i64 x128v164)]) /\
 (CALL PG 10 [(.pointer x126v10)] (w136.drew) fun v163 w137 =>
 ∃ x127v150 : Int,∃ x127v151 : Int,∃ x127v152 : Int,∃ x127v153 : Int,∃ x127v154 : Int,∃ x127v155 : Int,∃ x127v156 : Int,∃ x127v157 : Int,∃ x127v158 : Int,∃ x127v159 : Int,∃ x127v160 : Int,∃ x127v161 : Int,∃ x127v162 : Int,∃ x127v163 : Int,∃ x127v164 : Int,v163 = (.agg #[(.int .i64 x127v150),(.int .i64 x127v151),(.int .i64 x127v152),(.int .i64 x127v153),(.int .i64 x127v154),(.int .i64 x127v155),(.int .i64 x127v156),(.int .i64 x127v157),(.int .i64 x127v158),(.int .i64 x127v159),(.int .i64 x127v160),(.int .i64 x127v161),(.int .i64 x127v162),(.int .i64 x127v163),(.int .i64 x127v164)]) /\
 (∃ S48 : World -> Prop,(∀ x,S48 x -> S47 x) /\ S48 w137 /\
 (RDSB PG (do eqGuard .eql 24 (.tmp 127) (.tmp 128) (.agg #[(.int .i64 x127v150),(.int .i64 x127v151),(.int .i64 x127v152),(.int .i64 x127v153),(.int .i64 x127v154),(.int .i64 x127v155),(.int .i64 x127v156),(.int .i64 x127v157),(.int .i64 x127v158),(.int .i64 x127v159),(.int .i64 x127v160),(.int .i64 x127v161),(.int .i64 x127v162),(.int .i64 x127v163),(.int .i64 x127v164)]) (.agg #[(.int .i64 x128v150),(.int .i64 x128v151),(.int .i64 x128v152),(.int .i64 x128v153),(.int .i64 x128v154),(.int .i64 x128v155),(.int .i64 x128v156),(.int .i64 x128v157),(.int .i64 x128v158),(.int .i64 x128v159),(.int .i64 x128v160),(.int .i64 x128v161),(.int .i64 x128v162),(.int .i64 x128v163),(.int .i64 x128v164)]); binOp .eql 24 (.agg #[(.int .i64 x127v150),(.int .i64 x127v151),(.int .i64 x127v152),(.int .i64 x127v153),(.int .i64 x127v154),(.int .i64 x127v155),(.int .i64 x127v156),(.int .i64 x127v157),(.int .i64 x127v158),(.int .i64 x127v159),(.int .i64 x127v160),(.int .i64 x127v161),(.int .i64 x127v162),(.int .i64 x127v163),(.int .i64 x127v164)]) (.agg #[(.int .i64 x128v150),(.int .i64 x128v151),(.int .i64 x128v152),(.int .i64 x128v153),(.int .i64 x128v154),(.int .i64 x128v155),(.int .i64 x128v156),(.int .i64 x128v157),(.int .i64 x128v158),(.int .i64 x128v159),(.int .i64 x128v160),(.int .i64 x128v161),(.int .i64 x128v162),(.int .i64 x128v163),(.int .i64 x128v164)])) S48 fun x129v10 =>
 LETB x129v10 fun fits60 =>
 R10 fits60 w137))))
 (LETB false fun fits61 =>
 R10 fits61 (w136.drew)))
 (LETB false fun fits62 =>
 R10 fits62 (w136.drew)))
 (LETB false fun fits63 =>
 R10 fits63 (w136.drew)))
 (LETB false fun fits64 =>
 R10 fits64 (w136.drew)))) /\
 (∀ (fits65 : Bool) (w138 : World),R10 fits65 w138 -> (RDI PG (loadVar 39 (a7v8.add 0)) .i64 (w138.drew) fun x132v10 =>
 IFB (x132v10 == 3)
 (RDI PG (loadVar 48 (a6v7.add 2)) .i64 (w138.drew) fun x136v10 =>
 IFB (x136v10 == 1)
 (RDI PG (loadVar 48 (a7v8.add 2)) .i64 (w138.drew) fun x141v10 =>
 IFB (x141v10 == 2)
 (RD PG (loadVar 28 (a6v7.add 3)) (w138.drew) fun v164 =>
 ∃ x146v20 : Int,∃ x146v21 : Int,v164 = (.agg #[(.int .u64 x146v20),(.int .u64 x146v21)]) /\
 (RD PG (loadVar 28 (a8v10.add 0)) (w138.drew) fun v165 =>
 ∃ x148v20 : Int,∃ x148v21 : Int,v165 = (.agg #[(.int .u64 x148v20),(.int .u64 x148v21)]) /\
 (RDB PG (do eqGuard .eql 28 (.tmp 146) (.tmp 148) (.agg #[(.int .u64 x146v20),(.int .u64 x146v21)]) (.agg #[(.int .u64 x148v20),(.int .u64 x148v21)]); binOp .eql 28 (.agg #[(.int .u64 x146v20),(.int .u64 x146v21)]) (.agg #[(.int .u64 x148v20),(.int .u64 x148v21)])) (w138.drew) fun x149v10 =>
 IFB x149v10
 (RD PG (loadVar 28 (a7v8.add 3)) (w138.drew) fun v166 =>
 ∃ x153v20 : Int,∃ x153v21 : Int,v166 = (.agg #[(.int .u64 x153v20),(.int .u64 x153v21)]) /\
 (RD PG (loadVar 28 (a8v10.add 0)) (w138.drew) fun v167 =>
 ∃ x155v20 : Int,∃ x155v21 : Int,v167 = (.agg #[(.int .u64 x155v20),(.int .u64 x155v21)]) /\
 (RDB PG (do eqGuard .eql 28 (.tmp 153) (.tmp 155) (.agg #[(.int .u64 x153v20),(.int .u64 x153v21)]) (.agg #[(.int .u64 x155v20),(.int .u64 x155v21)]); binOp .eql 28 (.agg #[(.int .u64 x153v20),(.int .u64 x153v21)]) (.agg #[(.int .u64 x155v20),(.int .u64 x155v21)])) (w138.drew) fun x156v10 =>
 IFB x156v10
 (NILC x15 fun a160v10 =>
 RDP PG (loadVar 34 (a160v10.add 0)) (w138.drew) fun x162v10 =>
 NILC x162v10 fun a163v10 =>
 RD PG (loadVar 56 (a163v10.add 0)) (w138.drew) fun v168 =>
 ∃ x165v90 : Int,∃ x165v91 : Int,∃ x165v92 : Int,∃ x165v93 : Int,∃ x165v94 : Int,∃ x165v95 : Int,∃ x165v96 : Int,∃ x165v97 : Int,∃ x165v98 : Int,v168 = (.agg #[(.int .u64 x165v90),(.int .u64 x165v91),(.int .u64 x165v92),(.int .u64 x165v93),(.int .u64 x165v94),(.int .u64 x165v95),(.int .u64 x165v96),(.int .u64 x165v97),(.int .u32 x165v98)]) /\
 (RD PG (loadVar 56 a8v10) (w138.drew) fun v169 =>
 ∃ x166v90 : Int,∃ x166v91 : Int,∃ x166v92 : Int,∃ x166v93 : Int,∃ x166v94 : Int,∃ x166v95 : Int,∃ x166v96 : Int,∃ x166v97 : Int,∃ x166v98 : Int,v169 = (.agg #[(.int .u64 x166v90),(.int .u64 x166v91),(.int .u64 x166v92),(.int .u64 x166v93),(.int .u64 x166v94),(.int .u64 x166v95),(.int .u64 x166v96),(.int .u64 x166v97),(.int .u32 x166v98)]) /\
 (RDB PG (do eqGuard .eql 56 (.tmp 165) (.tmp 166) (.agg #[(.int .u64 x165v90),(.int .u64 x165v91),(.int .u64 x165v92),(.int .u64 x165v93),(.int .u64 x165v94),(.int .u64 x165v95),(.int .u64 x165v96),(.int .u64 x165v97),(.int .u32 x165v98)]) (.agg #[(.int .u64 x166v90),(.int .u64 x166v91),(.int .u64 x166v92),(.int .u64 x166v93),(.int .u64 x166v94),(.int .u64 x166v95),(.int .u64 x166v96),(.int .u64 x166v97),(.int .u32 x166v98)]); binOp .eql 56 (.agg #[(.int .u64 x165v90),(.int .u64 x165v91),(.int .u64 x165v92),(.int .u64 x165v93),(.int .u64 x165v94),(.int .u64 x165v95),(.int .u64 x165v96),(.int .u64 x165v97),(.int .u32 x165v98)]) (.agg #[(.int .u64 x166v90),(.int .u64 x166v91),(.int .u64 x166v92),(.int .u64 x166v93),(.int .u64 x166v94),(.int .u64 x166v95),(.int .u64 x166v96),(.int .u64 x166v97),(.int .u32 x166v98)])) (w138.drew) fun x167v10 =>
 IFB x167v10
 (NILC x15 fun a171v10 =>
 RDP PG (loadVar 34 (a171v10.add 1)) (w138.drew) fun x173v10 =>
 NILC x173v10 fun a174v10 =>
 RD PG (loadVar 56 (a174v10.add 0)) (w138.drew) fun v170 =>
 ∃ x176v90 : Int,∃ x176v91 : Int,∃ x176v92 : Int,∃ x176v93 : Int,∃ x176v94 : Int,∃ x176v95 : Int,∃ x176v96 : Int,∃ x176v97 : Int,∃ x176v98 : Int,v170 = (.agg #[(.int .u64 x176v90),(.int .u64 x176v91),(.int .u64 x176v92),(.int .u64 x176v93),(.int .u64 x176v94),(.int .u64 x176v95),(.int .u64 x176v96),(.int .u64 x176v97),(.int .u32 x176v98)]) /\
 (RD PG (loadVar 56 a8v10) (w138.drew) fun v171 =>
 ∃ x177v90 : Int,∃ x177v91 : Int,∃ x177v92 : Int,∃ x177v93 : Int,∃ x177v94 : Int,∃ x177v95 : Int,∃ x177v96 : Int,∃ x177v97 : Int,∃ x177v98 : Int,v171 = (.agg #[(.int .u64 x177v90),(.int .u64 x177v91),(.int .u64 x177v92),(.int .u64 x177v93),(.int .u64 x177v94),(.int .u64 x177v95),(.int .u64 x177v96),(.int .u64 x177v97),(.int .u32 x177v98)]) /\
 (RDB PG (do eqGuard .eql 56 (.tmp 176) (.tmp 177) (.agg #[(.int .u64 x176v90),(.int .u64 x176v91),(.int .u64 x176v92),(.int .u64 x176v93),(.int .u64 x176v94),(.int .u64 x176v95),(.int .u64 x176v96),(.int .u64 x176v97),(.int .u32 x176v98)]) (.agg #[(.int .u64 x177v90),(.int .u64 x177v91),(.int .u64 x177v92),(.int .u64 x177v93),(.int .u64 x177v94),(.int .u64 x177v95),(.int .u64 x177v96),(.int .u64 x177v97),(.int .u32 x177v98)]); binOp .eql 56 (.agg #[(.int .u64 x176v90),(.int .u64 x176v91),(.int .u64 x176v92),(.int .u64 x176v93),(.int .u64 x176v94),(.int .u64 x176v95),(.int .u64 x176v96),(.int .u64 x176v97),(.int .u32 x176v98)]) (.agg #[(.int .u64 x177v90),(.int .u64 x177v91),(.int .u64 x177v92),(.int .u64 x177v93),(.int .u64 x177v94),(.int .u64 x177v95),(.int .u64 x177v96),(.int .u64 x177v97),(.int .u32 x177v98)])) (w138.drew) fun x178v10 =>
 IFB x178v10
 (IFB fits65
 (NILC x15 fun a185v10 =>
 RDP PG (loadVar 34 (a185v10.add 0)) (w138.drew) fun x187v10 =>
 CALL PG 11 [(.pointer x187v10)] (w138.drew) fun v172 w139 =>
 ∃ (x188v10 : Option Addr) (x188N10 x188C10 : Nat),v172 = (.slice x188v10 x188N10 x188C10) /\
 (IFB ((x188N10 : Int) == 1)
 (CALL PG 12 [] w139 fun v173 w140 =>
 ∃ x193v10 : Bool,v173 = (.bool x193v10) /\
 (LETB x193v10 fun x4v101 =>
 Q (.bool x4v101) w140))
 (LETB false fun x4v102 =>
 Q (.bool x4v102) w139)))
 (LETB false fun x4v103 =>
 Q (.bool x4v103) (w138.drew)))
 (LETB false fun x4v104 =>
 Q (.bool x4v104) (w138.drew)))))
 (LETB false fun x4v105 =>
 Q (.bool x4v105) (w138.drew)))))
 (LETB false fun x4v106 =>
 Q (.bool x4v106) (w138.drew)))))
 (LETB false fun x4v107 =>
 Q (.bool x4v107) (w138.drew)))))
 (LETB false fun x4v108 =>
 Q (.bool x4v108) (w138.drew)))
 (LETB false fun x4v109 =>
 Q (.bool x4v109) (w138.drew)))
 (LETB false fun x4v110 =>
 Q (.bool x4v110) (w138.drew))))))))))) /\
 (RUNA PG (Instr.alloc 53 true (.tuple #[])) w117 fun a6v8 w141 =>
 ∃ S49 : World -> Prop,(∀ x,S49 x -> S40 x) /\ S49 w141 /\
 (CALL PG 8 [(.pointer x84)] w141 fun v174 w142 =>
 ∃ x85v72 : Int,∃ x85v73 : Int,∃ x85v74 : Int,∃ x85v75 : Int,∃ x85v76 : Int,∃ x85v77 : Int,∃ x85v78 : Int,∃ x85v79 : Int,∃ x85v80 : Int,∃ x85v81 : Int,∃ x85v82 : Int,∃ x85v83 : Int,∃ x85v84 : Bool,∃ x85v85 : Bool,∃ x85v86 : Int,∃ x85v87 : Int,∃ x85v88 : Int,∃ x85v89 : Int,v174 = (.agg #[(.int .i64 x85v72),(.int .i64 x85v73),(.int .i64 x85v74),(.int .u64 x85v75),(.int .u64 x85v76),(.int .i64 x85v77),(.int .u16 x85v78),(.int .u16 x85v79),(.int .u64 x85v80),(.int .u64 x85v81),(.int .u64 x85v82),(.int .u64 x85v83),(.bool x85v84),(.bool x85v85),(.int .i64 x85v86),(.int .i64 x85v87),(.int .i64 x85v88),(.int .i64 x85v89)]) /\
 (∃ S50 : World -> Prop,(∀ x,S50 x -> S49 x) /\ S50 w142 /\
 (CALL PG 8 [(.pointer x89)] w142 fun v175 w143 =>
 ∃ x90v180 : Int,∃ x90v181 : Int,∃ x90v182 : Int,∃ x90v183 : Int,∃ x90v184 : Int,∃ x90v185 : Int,∃ x90v186 : Int,∃ x90v187 : Int,∃ x90v188 : Int,∃ x90v189 : Int,∃ x90v190 : Int,∃ x90v191 : Int,∃ x90v192 : Bool,∃ x90v193 : Bool,∃ x90v194 : Int,∃ x90v195 : Int,∃ x90v196 : Int,∃ x90v197 : Int,v175 = (.agg #[(.int .i64 x90v180),(.int .i64 x90v181),(.int .i64 x90v182),(.int .u64 x90v183),(.int .u64 x90v184),(.int .i64 x90v185),(.int .u16 x90v186),(.int .u16 x90v187),(.int .u64 x90v188),(.int .u64 x90v189),(.int .u64 x90v190),(.int .u64 x90v191),(.bool x90v192),(.bool x90v193),(.int .i64 x90v194),(.int .i64 x90v195),(.int .i64 x90v196),(.int .i64 x90v197)]) /\
 (RUNU PG (storeVar 53 a6v8 (.agg #[(.int .i64 x85v72),(.int .i64 x85v73),(.int .i64 x85v74),(.int .u64 x85v75),(.int .u64 x85v76),(.int .i64 x85v77),(.int .u16 x85v78),(.int .u16 x85v79),(.int .u64 x85v80),(.int .u64 x85v81),(.int .u64 x85v82),(.int .u64 x85v83),(.bool x85v84),(.bool x85v85),(.int .i64 x85v86),(.int .i64 x85v87),(.int .i64 x85v88),(.int .i64 x85v89)])) w143 fun w144 =>
 RUNU PG (storeVar 53 a7v8 (.agg #[(.int .i64 x90v180),(.int .i64 x90v181),(.int .i64 x90v182),(.int .u64 x90v183),(.int .u64 x90v184),(.int .i64 x90v185),(.int .u16 x90v186),(.int .u16 x90v187),(.int .u64 x90v188),(.int .u64 x90v189),(.int .u64 x90v190),(.int .u64 x90v191),(.bool x90v192),(.bool x90v193),(.int .i64 x90v194),(.int .i64 x90v195),(.int .i64 x90v196),(.int .i64 x90v197)])) w144 fun w145 =>
 RDI PG (loadVar 25 (a3.add 0)) .u64 w145 fun x92v11 =>
 RDI PG (loadVar 25 (a3.add 1)) .u64 w145 fun x94v11 =>
 CALL PG 9 [(.int .u64 x92v11),(.int .u64 x94v11)] w145 fun v176 w146 =>
 ∃ x95v99 : Int,∃ x95v100 : Int,∃ x95v101 : Int,∃ x95v102 : Int,∃ x95v103 : Int,∃ x95v104 : Int,∃ x95v105 : Int,∃ x95v106 : Int,∃ x95v107 : Int,v176 = (.agg #[(.int .u64 x95v99),(.int .u64 x95v100),(.int .u64 x95v101),(.int .u64 x95v102),(.int .u64 x95v103),(.int .u64 x95v104),(.int .u64 x95v105),(.int .u64 x95v106),(.int .u32 x95v107)]) /\
 (RUNA PG (Instr.alloc 56 true (.tuple #[])) w146 fun a8v11 w147 =>
 RUNU PG (storeVar 56 a8v11 (.agg #[(.int .u64 x95v99),(.int .u64 x95v100),(.int .u64 x95v101),(.int .u64 x95v102),(.int .u64 x95v103),(.int .u64 x95v104),(.int .u64 x95v105),(.int .u64 x95v106),(.int .u32 x95v107)])) w147 fun w148 =>
 ∃ R11 : Bool -> World -> Prop,
 (∃ S51 : World -> Prop,S51 (w148.drew) /\
 (RDSI PG (loadVar 49 ((a6v8.add 5).add 1)) .u16 S51 fun x98v11 =>
 RDSI PG (loadVar 49 ((a7v8.add 5).add 2)) .u16 S51 fun x101v11 =>
 IFB (x98v11 == x101v11)
 (RDSI PG (loadVar 49 ((a6v8.add 5).add 2)) .u16 S51 fun x106v11 =>
 RDSI PG (loadVar 49 ((a7v8.add 5).add 1)) .u16 S51 fun x109v11 =>
 IFB (x106v11 == x109v11)
 (RDSI PG (loadVar 3 (a6v8.add 15)) .i64 S51 fun x114v11 =>
 IFB (x114v11 == 1)
 (RDSI PG (loadVar 3 (a7v8.add 15)) .i64 S51 fun x119v11 =>
 IFB (x119v11 == 1)
 (NILC x15 fun a124v11 =>
 RDSP PG (loadVar 34 (a124v11.add 0)) S51 fun x126v11 =>
 RDS PG (loadVar 24 a2) S51 fun v177 =>
 ∃ x128v165 : Int,∃ x128v166 : Int,∃ x128v167 : Int,∃ x128v168 : Int,∃ x128v169 : Int,∃ x128v170 : Int,∃ x128v171 : Int,∃ x128v172 : Int,∃ x128v173 : Int,∃ x128v174 : Int,∃ x128v175 : Int,∃ x128v176 : Int,∃ x128v177 : Int,∃ x128v178 : Int,∃ x128v179 : Int,v177 = (.agg #[(.int .i64 x128v165),(.int .i64 x128v166),(.int .i64 x128v167),(.int .i64 x128v168),(.int .i64 x128v169),(.int .i64 x128v170),(.int .i64 x128v171),(.int .i64 x128v172),(.int .i64 x128v173),(.int .i64 x128v174),(.int .i64 x128v175),(.int .i64 x128v176),(.int .i64 x128v177),(.int .i64 x128v178),(.int .i64 x128v179)]) /\
 (CALL PG 10 [(.pointer x126v11)] (w148.drew) fun v178 w149 =>
 ∃ x127v165 : Int,∃ x127v166 : Int,∃ x127v167 : Int,∃ x127v168 : Int,∃ x127v169 : Int,∃ x127v170 : Int,∃ x127v171 : Int,∃ x127v172 : Int,∃ x127v173 : Int,∃ x127v174 : Int,∃ x127v175 : Int,∃ x127v176 : Int,∃ x127v177 : Int,∃ x127v178 : Int,∃ x127v179 : Int,v178 = (.agg #[(.int .i64 x127v165),(.int .i64 x127v166),(.int .i64 x127v167),(.int .i64 x127v168),(.int .i64 x127v169),(.int .i64 x127v170),(.int .i64 x127v171),(.int .i64 x127v172),(.int .i64 x127v173),(.int .i64 x127v174),(.int .i64 x127v175),(.int .i64 x127v176),(.int .i64 x127v177),(.int .i64 x127v178),(.int .i64 x127v179)]) /\
 (∃ S52 : World -> Prop,(∀ x,S52 x -> S51 x) /\ S52 w149 /\
 (RDSB PG (do eqGuard .eql 24 (.tmp 127) (.tmp 128) (.agg #[(.int .i64 x127v165),(.int .i64 x127v166),(.int .i64 x127v167),(.int .i64 x127v168),(.int .i64 x127v169),(.int .i64 x127v170),(.int .i64 x127v171),(.int .i64 x127v172),(.int .i64 x127v173),(.int .i64 x127v174),(.int .i64 x127v175),(.int .i64 x127v176),(.int .i64 x127v177),(.int .i64 x127v178),(.int .i64 x127v179)]) (.agg #[(.int .i64 x128v165),(.int .i64 x128v166),(.int .i64 x128v167),(.int .i64 x128v168),(.int .i64 x128v169),(.int .i64 x128v170),(.int .i64 x128v171),(.int .i64 x128v172),(.int .i64 x128v173),(.int .i64 x128v174),(.int .i64 x128v175),(.int .i64 x128v176),(.int .i64 x128v177),(.int .i64 x128v178),(.int .i64 x128v179)]); binOp .eql 24 (.agg #[(.int .i64 x127v165),(.int .i64 x127v166),(.int .i64 x127v167),(.int .i64 x127v168),(.int .i64 x127v169),(.int .i64 x127v170),(.int .i64 x127v171),(.int .i64 x127v172),(.int .i64 x127v173),(.int .i64 x127v174),(.int .i64 x127v175),(.int .i64 x127v176),(.int .i64 x127v177),(.int .i64 x127v178),(.int .i64 x127v179)]) (.agg #[(.int .i64 x128v165),(.int .i64 x128v166),(.int .i64 x128v167),(.int .i64 x128v168),(.int .i64 x128v169),(.int .i64 x128v170),(.int .i64 x128v171),(.int .i64 x128v172),(.int .i64 x128v173),(.int .i64 x128v174),(.int .i64 x128v175),(.int .i64 x128v176),(.int .i64 x128v177),(.int .i64 x128v178),(.int .i64 x128v179)])) S52 fun x129v11 =>
 LETB x129v11 fun fits66 =>
 R11 fits66 w149))))
 (LETB false fun fits67 =>
 R11 fits67 (w148.drew)))
 (LETB false fun fits68 =>
 R11 fits68 (w148.drew)))
 (LETB false fun fits69 =>
 R11 fits69 (w148.drew)))
 (LETB false fun fits70 =>
 R11 fits70 (w148.drew)))) /\
 (∀ (fits71 : Bool) (w150 : World),R11 fits71 w150 -> (RDI PG (loadVar 39 (a7v8.add 0)) .i64 (w150.drew) fun x132v11 =>
 IFB (x132v11 == 3)
 (RDI PG (loadVar 48 (a6v8.add 2)) .i64 (w150.drew) fun x136v11 =>
 IFB (x136v11 == 1)
 (RDI PG (loadVar 48 (a7v8.add 2)) .i64 (w150.drew) fun x141v11 =>
 IFB (x141v11 == 2)
 (RD PG (loadVar 28 (a6v8.add 3)) (w150.drew) fun v179 =>
 ∃ x146v22 : Int,∃ x146v23 : Int,v179 = (.agg #[(.int .u64 x146v22),(.int .u64 x146v23)]) /\
 (RD PG (loadVar 28 (a8v11.add 0)) (w150.drew) fun v180 =>
 ∃ x148v22 : Int,∃ x148v23 : Int,v180 = (.agg #[(.int .u64 x148v22),(.int .u64 x148v23)]) /\
 (RDB PG (do eqGuard .eql 28 (.tmp 146) (.tmp 148) (.agg #[(.int .u64 x146v22),(.int .u64 x146v23)]) (.agg #[(.int .u64 x148v22),(.int .u64 x148v23)]); binOp .eql 28 (.agg #[(.int .u64 x146v22),(.int .u64 x146v23)]) (.agg #[(.int .u64 x148v22),(.int .u64 x148v23)])) (w150.drew) fun x149v11 =>
 IFB x149v11
 (RD PG (loadVar 28 (a7v8.add 3)) (w150.drew) fun v181 =>
 ∃ x153v22 : Int,∃ x153v23 : Int,v181 = (.agg #[(.int .u64 x153v22),(.int .u64 x153v23)]) /\
 (RD PG (loadVar 28 (a8v11.add 0)) (w150.drew) fun v182 =>
 ∃ x155v22 : Int,∃ x155v23 : Int,v182 = (.agg #[(.int .u64 x155v22),(.int .u64 x155v23)]) /\
 (RDB PG (do eqGuard .eql 28 (.tmp 153) (.tmp 155) (.agg #[(.int .u64 x153v22),(.int .u64 x153v23)]) (.agg #[(.int .u64 x155v22),(.int .u64 x155v23)]); binOp .eql 28 (.agg #[(.int .u64 x153v22),(.int .u64 x153v23)]) (.agg #[(.int .u64 x155v22),(.int .u64 x155v23)])) (w150.drew) fun x156v11 =>
 IFB x156v11
 (NILC x15 fun a160v11 =>
 RDP PG (loadVar 34 (a160v11.add 0)) (w150.drew) fun x162v11 =>
 NILC x162v11 fun a163v11 =>
 RD PG (loadVar 56 (a163v11.add 0)) (w150.drew) fun v183 =>
 ∃ x165v99 : Int,∃ x165v100 : Int,∃ x165v101 : Int,∃ x165v102 : Int,∃ x165v103 : Int,∃ x165v104 : Int,∃ x165v105 : Int,∃ x165v106 : Int,∃ x165v107 : Int,v183 = (.agg #[(.int .u64 x165v99),(.int .u64 x165v100),(.int .u64 x165v101),(.int .u64 x165v102),(.int .u64 x165v103),(.int .u64 x165v104),(.int .u64 x165v105),(.int .u64 x165v106),(.int .u32 x165v107)]) /\
 (RD PG (loadVar 56 a8v11) (w150.drew) fun v184 =>
 ∃ x166v99 : Int,∃ x166v100 : Int,∃ x166v101 : Int,∃ x166v102 : Int,∃ x166v103 : Int,∃ x166v104 : Int,∃ x166v105 : Int,∃ x166v106 : Int,∃ x166v107 : Int,v184 = (.agg #[(.int .u64 x166v99),(.int .u64 x166v100),(.int .u64 x166v101),(.int .u64 x166v102),(.int .u64 x166v103),(.int .u64 x166v104),(.int .u64 x166v105),(.int .u64 x166v106),(.int .u32 x166v107)]) /\
 (RDB PG (do eqGuard .eql 56 (.tmp 165) (.tmp 166) (.agg #[(.int .u64 x165v99),(.int .u64 x165v100),(.int .u64 x165v101),(.int .u64 x165v102),(.int .u64 x165v103),(.int .u64 x165v104),(.int .u64 x165v105),(.int .u64 x165v106),(.int .u32 x165v107)]) (.agg #[(.int .u64 x166v99),(.int .u64 x166v100),(.int .u64 x166v101),(.int .u64 x166v102),(.int .u64 x166v103),(.int .u64 x166v104),(.int .u64 x166v105),(.int .u64 x166v106),(.int .u32 x166v107)]); binOp .eql 56 (.agg #[(.int .u64 x165v99),(.int .u64 x165v100),(.int .u64 x165v101),(.int .u64 x165v102),(.int .u64 x165v103),(.int .u64 x165v104),(.int .u64 x165v105),(.int .u64 x165v106),(.int .u32 x165v107)]) (.agg #[(.int .u64 x166v99),(.int .u64 x166v100),(.int .u64 x166v101),(.int .u64 x166v102),(.int .u64 x166v103),(.int .u64 x166v104),(.int .u64 x166v105),(.int .u64 x166v106),(.int .u32 x166v107)])) (w150.drew) fun x167v11 =>
 IFB x167v11
 (NILC x15 fun a171v11 =>
 RDP PG (loadVar 34 (a171v11.add 1)) (w150.drew) fun x173v11 =>
 NILC x173v11 fun a174v11 =>
 RD PG (loadVar 56 (a174v11.add 0)) (w150.drew) fun v185 =>
 ∃ x176v99 : Int,∃ x176v100 : Int,∃ x176v101 : Int,∃ x176v102 : Int,∃ x176v103 : Int,∃ x176v104 : Int,∃ x176v105 : Int,∃ x176v106 : Int,∃ x176v107 : Int,v185 = (.agg #[(.int .u64 x176v99),(.int .u64 x176v100),(.int .u64 x176v101),(.int .u64 x176v102),(.int .u64 x176v103),(.int .u64 x176v104),(.int .u64 x176v105),(.int .u64 x176v106),(.int .u32 x176v107)]) /\
 (RD PG (loadVar 56 a8v11) (w150.drew) fun v186 =>
 ∃ x177v99 : Int,∃ x177v100 : Int,∃ x177v101 : Int,∃ x177v102 : Int,∃ x177v103 : Int,∃ x177v104 : Int,∃ x177v105 : Int,∃ x177v106 : Int,∃ x177v107 : Int,v186 = (.agg #[(.int .u64 x177v99),(.int .u64 x177v100),(.int .u64 x177v101),(.int .u64 x177v102),(.int .u64 x177v103),(.int .u64 x177v104),(.int .u64 x177v105),(.int .u64 x177v106),(.int .u32 x177v107)]) /\
 (RDB PG (do eqGuard .eql 56 (.tmp 176) (.tmp 177) (.agg #[(.int .u64 x176v99),(.int .u64 x176v100),(.int .u64 x176v101),(.int .u64 x176v102),(.int .u64 x176v103),(.int .u64 x176v104),(.int .u64 x176v105),(.int .u64 x176v106),(.int .u32 x176v107)]) (.agg #[(.int .u64 x177v99),(.int .u64 x177v100),(.int .u64 x177v101),(.int .u64 x177v102),(.int .u64 x177v103),(.int .u64 x177v104),(.int .u64 x177v105),(.int .u64 x177v106),(.int .u32 x177v107)]); binOp .eql 56 (.agg #[(.int .u64 x176v99),(.int .u64 x176v100),(.int .u64 x176v101),(.int .u64 x176v102),(.int .u64 x176v103),(.int .u64 x176v104),(.int .u64 x176v105),(.int .u64 x176v106),(.int .u32 x176v107)]) (.agg #[(.int .u64 x177v99),(.int .u64 x177v100),(.int .u64 x177v101),(.int .u64 x177v102),(.int .u64 x177v103),(.int .u64 x177v104),(.int .u64 x177v105),(.int .u64 x177v106),(.int .u32 x177v107)])) (w150.drew) fun x178v11 =>
 IFB x178v11
 (IFB fits71
 (NILC x15 fun a185v11 =>
 RDP PG (loadVar 34 (a185v11.add 0)) (w150.drew) fun x187v11 =>
 CALL PG 11 [(.pointer x187v11)] (w150.drew) fun v187 w151 =>
 ∃ (x188v11 : Option Addr) (x188N11 x188C11 : Nat),v187 = (.slice x188v11 x188N11 x188C11) /\
 (IFB ((x188N11 : Int) == 1)
 (CALL PG 12 [] w151 fun v188 w152 =>
 ∃ x193v11 : Bool,v188 = (.bool x193v11) /\
 (LETB x193v11 fun x4v111 =>
 Q (.bool x4v111) w152))
 (LETB false fun x4v112 =>
 Q (.bool x4v112) w151)))
 (LETB false fun x4v113 =>
 Q (.bool x4v113) (w150.drew)))
 (LETB false fun x4v114 =>
 Q (.bool x4v114) (w150.drew)))))
 (LETB false fun x4v115 =>
 Q (.bool x4v115) (w150.drew)))))
 (LETB false fun x4v116 =>
 Q (.bool x4v116) (w150.drew)))))
 (LETB false fun x4v117 =>
 Q (.bool x4v117) (w150.drew)))))
 (LETB false fun x4v118 =>
 Q (.bool x4v118) (w150.drew)))
 (LETB false fun x4v119 =>
 Q (.bool x4v119) (w150.drew)))
 (LETB false fun x4v120 =>
 Q (.bool x4v120) (w150.drew)))))))))))))))))))))))))))))))))))))))
theorem call3 {c : Int} {c1 : Int} {c2 : Int} {c3 : Int} {c4 : Int} {c5 : Int} {c6 : Int} {c7 : Int} {c8 : Int} {c9 : Int} {c10 : Int} {c11 : Int} {c12 : Int} {c13 : Int} {c14 : Int} {x : Int} {x1 : Int} {x2 : Int} {x3 : Int} {x4 : Int} {x5 : Int} {w : World} {Q : QP} (h_ : N3 c c1 c2 c3 c4 c5 c6 c7 c8 c9 c10 c11 c12 c13 c14 x x1 x2 x3 x4 x5 w Q) : CALL PG 3 [(.agg #[(.int .i64 c),(.int .i64 c1),(.int .i64 c2),(.int .i64 c3),(.int .i64 c4),(.int .i64 c5),(.int .i64 c6),(.int .i64 c7),(.int .i64 c8),(.int .i64 c9),(.int .i64 c10),(.int .i64 c11),(.int .i64 c12),(.int .i64 c13),(.int .i64 c14)]),(.agg #[(.int .u64 x),(.int .u64 x1),(.int .u32 x2),(.int .u32 x3),(.int .u64 x4),(.int .u64 x5)])] w Q:=calls_vq (.s .nil (.s .nil (.s .nil (.s .nil (.s .nil (.s .nil (.s .nil (.s .nil (.s .nil (.s .nil (.s .nil (.cut [(9,4)] .nil .nil)))))))))))) tabOk Tryz.func3 (by kernel_rfl) h_
end Go.Br
