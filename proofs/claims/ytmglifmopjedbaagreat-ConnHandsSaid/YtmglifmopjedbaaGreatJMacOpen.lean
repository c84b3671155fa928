/- MacData, MacOpen -/
import Derived.Test.YtmglifmopjedbaaGreatBrSeat
import Derived.Test.YtmglifmopjedbaaGreatJOptRead
import Derived.Test.YtmglifmopjedbaaGreatJOptRead
import Derived.Test.YtmglifmopjedbaaGreatJSegRound
/- What the code of some functions says,as the core reads it; each reading is checked by the kernel. -/
set_option linter.unusedVariables false
set_option maxRecDepth 100000
namespace Go.Br
open Go Go.Proofs
def N136 (o : Int) (o1 : Option Addr) (oN oC : Nat) (w : World) (Q : QP) : Prop :=
 RUNA PG (Instr.box 122 (.agg #[(.int .u8 o),(.slice o1 oN oC)])) w fun a1 w1 =>
 RUNA PG (Instr.alloc 185 true (.tuple #[])) w1 fun a2 w2 =>
 RDL PG (loadVar 41 (a1.add 1)) w2 fun x8 x8N x8C =>
 RUNL PG (Instr.buildSlice 64 5 #[(0,(.int .i64 1)),(1,(.int .i64 8)),(2,(.int .i64 8)),(3,(.int .i64 4)),(4,(.int .i64 8))]) w2 fun x9 x9N x9C w3 =>
 CALL PG 82 [(.slice x8 x8N x8C),(.slice x9 x9N x9C)] w3 fun v w4 =>
 ∃ (x10 : Option Addr) (x10N x10C : Nat),∃ x10v1 : Bool,v = (.tuple #[(.slice x10 x10N x10C),(.bool x10v1)]) /\
 (LETB x10v1 fun okv =>
 RDI PG (loadVar 5 (a1.add 0)) .u8 w4 fun x14 =>
 IFB (x14 != 3)
 (RD PG (Instr.build 185 #[]) w4 fun v1 =>
 ∃ x26 : Bool,∃ x26v1 : Bool,∃ x26v2 : Int,∃ x26v3 : Int,∃ x26v4 : Int,∃ x26v5 : Int,v1 = (.agg #[(.bool x26),(.bool x26v1),(.int .u64 x26v2),(.int .u64 x26v3),(.int .u32 x26v4),(.int .u64 x26v5)]) /\
 (RUNU PG (storeVar 185 a2 (.agg #[(.bool x26),(.bool x26v1),(.int .u64 x26v2),(.int .u64 x26v3),(.int .u32 x26v4),(.int .u64 x26v5)])) w4 fun w5 =>
 RD PG (loadVar 185 a2) w5 fun v3 =>
 ∃ r : Bool,∃ r1 : Bool,∃ r2 : Int,∃ r3 : Int,∃ r4 : Int,∃ r5 : Int,v3 = (.agg #[(.bool r),(.bool r1),(.int .u64 r2),(.int .u64 r3),(.int .u32 r4),(.int .u64 r5)]) /\
 (Q (.tuple #[(.agg #[(.bool r),(.bool r1),(.int .u64 r2),(.int .u64 r3),(.int .u32 r4),(.int .u64 r5)]),(.bool false)]) w5)))
 (IFB (!okv)
 (RD PG (Instr.build 185 #[]) w4 fun v4 =>
 ∃ x26v6 : Bool,∃ x26v7 : Bool,∃ x26v8 : Int,∃ x26v9 : Int,∃ x26v10 : Int,∃ x26v11 : Int,v4 = (.agg #[(.bool x26v6),(.bool x26v7),(.int .u64 x26v8),(.int .u64 x26v9),(.int .u32 x26v10),(.int .u64 x26v11)]) /\
 (RUNU PG (storeVar 185 a2 (.agg #[(.bool x26v6),(.bool x26v7),(.int .u64 x26v8),(.int .u64 x26v9),(.int .u32 x26v10),(.int .u64 x26v11)])) w4 fun w6 =>
 RD PG (loadVar 185 a2) w6 fun v6 =>
 ∃ r6 : Bool,∃ r7 : Bool,∃ r8 : Int,∃ r9 : Int,∃ r10 : Int,∃ r11 : Int,v6 = (.agg #[(.bool r6),(.bool r7),(.int .u64 r8),(.int .u64 r9),(.int .u32 r10),(.int .u64 r11)]) /\
 (Q (.tuple #[(.agg #[(.bool r6),(.bool r7),(.int .u64 r8),(.int .u64 r9),(.int .u32 r10),(.int .u64 r11)]),(.bool false)]) w6)))
 (IDX x10 x10N 0 fun a22 =>
 RDI PG (loadVar 25 (a22.add (Int.toNat 0 * 1))) .u64 w4 fun x23 =>
 IFB (decide (x23 > 3))
 (RD PG (Instr.build 185 #[]) w4 fun v7 =>
 ∃ x26v12 : Bool,∃ x26v13 : Bool,∃ x26v14 : Int,∃ x26v15 : Int,∃ x26v16 : Int,∃ x26v17 : Int,v7 = (.agg #[(.bool x26v12),(.bool x26v13),(.int .u64 x26v14),(.int .u64 x26v15),(.int .u32 x26v16),(.int .u64 x26v17)]) /\
 (RUNU PG (storeVar 185 a2 (.agg #[(.bool x26v12),(.bool x26v13),(.int .u64 x26v14),(.int .u64 x26v15),(.int .u32 x26v16),(.int .u64 x26v17)])) w4 fun w7 =>
 RD PG (loadVar 185 a2) w7 fun v9 =>
 ∃ r12 : Bool,∃ r13 : Bool,∃ r14 : Int,∃ r15 : Int,∃ r16 : Int,∃ r17 : Int,v9 = (.agg #[(.bool r12),(.bool r13),(.int .u64 r14),(.int .u64 r15),(.int .u32 r16),(.int .u64 r17)]) /\
 (Q (.tuple #[(.agg #[(.bool r12),(.bool r13),(.int .u64 r14),(.int .u64 r15),(.int .u32 r16),(.int .u64 r17)]),(.bool false)]) w7)))
 (IDX x10 x10N 0 fun a28 =>
 RDI PG (loadVar 25 (a28.add (Int.toNat 0 * 1))) .u64 (w4.drew) fun x29 =>
 IDX x10 x10N 0 fun a33 =>
 RDI PG (loadVar 25 (a33.add (Int.toNat 0 * 1))) .u64 (w4.drew) fun x34 =>
 IDX x10 x10N 1 fun a38 =>
 RDI PG (loadVar 25 (a38.add (Int.toNat 1 * 1))) .u64 (w4.drew) fun x39 =>
 IDX x10 x10N 2 fun a41 =>
 RDI PG (loadVar 25 (a41.add (Int.toNat 2 * 1))) .u64 (w4.drew) fun x42 =>
 IDX x10 x10N 3 fun a44 =>
 RDI PG (loadVar 25 (a44.add (Int.toNat 3 * 1))) .u64 (w4.drew) fun x45 =>
 IDX x10 x10N 4 fun a48 =>
 RDI PG (loadVar 25 (a48.add (Int.toNat 4 * 1))) .u64 (w4.drew) fun x49 =>
 RD PG (Instr.build 126 #[(0,(.int .u64 x49))]) (w4.drew) fun v10 =>
 ∃ x50 : Int,v10 = (.agg #[(.int .u64 x50)]) /\
 (RD PG (Instr.build 185 #[(0,(.bool ((IntKind.u64.wrap (BitVec.ofInt (IntKind.u64.bits) x29 &&& BitVec.ofInt (IntKind.u64.bits) 1).toNat) == 1))),(1,(.bool ((IntKind.u64.wrap (BitVec.ofInt (IntKind.u64.bits) x34 &&& BitVec.ofInt (IntKind.u64.bits) 2).toNat) == 2))),(2,(.int .u64 x39)),(3,(.int .u64 x42)),(4,(.int .u32 (IntKind.u32.wrap x45))),(5,(.agg #[(.int .u64 x50)]))]) (w4.drew) fun v11 =>
 ∃ x51 : Bool,∃ x51v1 : Bool,∃ x51v2 : Int,∃ x51v3 : Int,∃ x51v4 : Int,∃ x51v5 : Int,v11 = (.agg #[(.bool x51),(.bool x51v1),(.int .u64 x51v2),(.int .u64 x51v3),(.int .u32 x51v4),(.int .u64 x51v5)]) /\
 (RUNU PG (storeVar 185 a2 (.agg #[(.bool x51),(.bool x51v1),(.int .u64 x51v2),(.int .u64 x51v3),(.int .u32 x51v4),(.int .u64 x51v5)])) (w4.drew) fun w8 =>
 RD PG (loadVar 185 a2) w8 fun v13 =>
 ∃ r18 : Bool,∃ r19 : Bool,∃ r20 : Int,∃ r21 : Int,∃ r22 : Int,∃ r23 : Int,v13 = (.agg #[(.bool r18),(.bool r19),(.int .u64 r20),(.int .u64 r21),(.int .u32 r22),(.int .u64 r23)]) /\
 (Q (.tuple #[(.agg #[(.bool r18),(.bool r19),(.int .u64 r20),(.int .u64 r21),(.int .u32 r22),(.int .u64 r23)]),(.bool true)]) w8)))))))
theorem call136 {o : Int} {o1 : Option Addr} {oN oC : Nat} {w : World} {Q : QP} (h_ : N136 o o1 oN oC w Q) : CALL PG 136 [(.agg #[(.int .u8 o),(.slice o1 oN oC)])] w Q:=calls_vq .nil tabOk Tryz.func136 (by kernel_rfl) h_
def N137 (k : Int) (k1 : Int) (s : Int) (s1 : Int) (s2 : Int) (s3 : Int) (s4 : Int) (s5 : Option Addr) (sN sC : Nat) (s6 : Option Addr) (sN1 sC1 : Nat) (o : Int) (o1 : Option Addr) (oN oC : Nat) (tag : Int) (w : World) (Q : QP) : Prop :=
 RUNA PG (Instr.box 28 (.agg #[(.int .u64 k),(.int .u64 k1)])) w fun a4 w1 =>
 RUNA PG (Instr.box 118 (.agg #[(.int .u16 s),(.int .u16 s1),(.int .u32 s2),(.int .u32 s3),(.int .u8 s4),(.slice s5 sN sC),(.slice s6 sN1 sC1)])) w1 fun a5 w2 =>
 RUNA PG (Instr.box 122 (.agg #[(.int .u8 o),(.slice o1 oN oC)])) w2 fun a6 w3 =>
 RD PG (loadVar 28 a4) w3 fun v =>
 ∃ x9 : Int,∃ x9v1 : Int,v = (.agg #[(.int .u64 x9),(.int .u64 x9v1)]) /\
 (RD PG (loadVar 118 a5) w3 fun v1 =>
 ∃ x10 : Int,∃ x10v1 : Int,∃ x10v2 : Int,∃ x10v3 : Int,∃ x10v4 : Int,∃ (x10v5 : Option Addr) (x10N x10C : Nat),∃ (x10v6 : Option Addr) (x10N1 x10C1 : Nat),v1 = (.agg #[(.int .u16 x10),(.int .u16 x10v1),(.int .u32 x10v2),(.int .u32 x10v3),(.int .u8 x10v4),(.slice x10v5 x10N x10C),(.slice x10v6 x10N1 x10C1)]) /\
 (RD PG (loadVar 122 a6) w3 fun v2 =>
 ∃ x11 : Int,∃ (x11v1 : Option Addr) (x11N x11C : Nat),v2 = (.agg #[(.int .u8 x11),(.slice x11v1 x11N x11C)]) /\
 (CALL PG 173 [(.agg #[(.int .u64 x9),(.int .u64 x9v1)]),(.agg #[(.int .u16 x10),(.int .u16 x10v1),(.int .u32 x10v2),(.int .u32 x10v3),(.int .u8 x10v4),(.slice x10v5 x10N x10C),(.slice x10v6 x10N1 x10C1)]),(.agg #[(.int .u8 x11),(.slice x11v1 x11N x11C)])] w3 fun v3 w4 =>
 ∃ x12 : Int,v3 = (.int .u64 x12) /\
 (LETB (x12 == tag) fun x8 =>
 Q (.bool x8) w4))))
theorem call137 {k : Int} {k1 : Int} {s : Int} {s1 : Int} {s2 : Int} {s3 : Int} {s4 : Int} {s5 : Option Addr} {sN sC : Nat} {s6 : Option Addr} {sN1 sC1 : Nat} {o : Int} {o1 : Option Addr} {oN oC : Nat} {tag : Int} {w : World} {Q : QP} (h_ : N137 k k1 s s1 s2 s3 s4 s5 sN sC s6 sN1 sC1 o o1 oN oC tag w Q) : CALL PG 137 [(.agg #[(.int .u64 k),(.int .u64 k1)]),(.agg #[(.int .u16 s),(.int .u16 s1),(.int .u32 s2),(.int .u32 s3),(.int .u8 s4),(.slice s5 sN sC),(.slice s6 sN1 sC1)]),(.agg #[(.int .u8 o),(.slice o1 oN oC)]),(.int .u64 tag)] w Q:=calls_vq .nil tabOk Tryz.func137 (by kernel_rfl) h_
def N149 (k : Int) (k1 : Int) (s : Int) (s1 : Int) (s2 : Int) (s3 : Int) (s4 : Int) (s5 : Option Addr) (sN sC : Nat) (s6 : Option Addr) (sN1 sC1 : Nat) (x : Bool) (x1 : Bool) (x2 : Int) (x3 : Int) (x4 : Int) (x5 : Int) (w : World) (Q : QP) : Prop :=
 RUNA PG (Instr.box 28 (.agg #[(.int .u64 k),(.int .u64 k1)])) w fun a3 w1 =>
 RUNA PG (Instr.box 118 (.agg #[(.int .u16 s),(.int .u16 s1),(.int .u32 s2),(.int .u32 s3),(.int .u8 s4),(.slice s5 sN sC),(.slice s6 sN1 sC1)])) w1 fun a4 w2 =>
 RUNA PG (Instr.box 185 (.agg #[(.bool x),(.bool x1),(.int .u64 x2),(.int .u64 x3),(.int .u32 x4),(.int .u64 x5)])) w2 fun a5 w3 =>
 RUNA PG (Instr.alloc 122 true (.tuple #[])) w3 fun a6 w4 =>
 ∃ S : World -> Prop,S (w4.drew) /\
 (RDS PG (loadVar 28 a3) S fun v =>
 ∃ x8 : Int,∃ x8v1 : Int,v = (.agg #[(.int .u64 x8),(.int .u64 x8v1)]) /\
 (RDS PG (loadVar 118 a4) S fun v1 =>
 ∃ x9 : Int,∃ x9v1 : Int,∃ x9v2 : Int,∃ x9v3 : Int,∃ x9v4 : Int,∃ (x9v5 : Option Addr) (x9N x9C : Nat),∃ (x9v6 : Option Addr) (x9N1 x9C1 : Nat),v1 = (.agg #[(.int .u16 x9),(.int .u16 x9v1),(.int .u32 x9v2),(.int .u32 x9v3),(.int .u8 x9v4),(.slice x9v5 x9N x9C),(.slice x9v6 x9N1 x9C1)]) /\
 (RDS PG (loadVar 185 a5) S fun v2 =>
 ∃ x10 : Bool,∃ x10v1 : Bool,∃ x10v2 : Int,∃ x10v3 : Int,∃ x10v4 : Int,∃ x10v5 : Int,v2 = (.agg #[(.bool x10),(.bool x10v1),(.int .u64 x10v2),(.int .u64 x10v3),(.int .u32 x10v4),(.int .u64 x10v5)]) /\
 (CALL PG 179 [(.agg #[(.bool x10),(.bool x10v1),(.int .u64 x10v2),(.int .u64 x10v3),(.int .u32 x10v4),(.int .u64 x10v5)])] (w4.drew) fun v3 w5 =>
 ∃ x11 : Int,∃ (x11v1 : Option Addr) (x11N x11C : Nat),v3 = (.agg #[(.int .u8 x11),(.slice x11v1 x11N x11C)]) /\
 (∃ S1 : World -> Prop,(∀ x,S1 x -> S x) /\ S1 w5 /\
 (CALL PG 173 [(.agg #[(.int .u64 x8),(.int .u64 x8v1)]),(.agg #[(.int .u16 x9),(.int .u16 x9v1),(.int .u32 x9v2),(.int .u32 x9v3),(.int .u8 x9v4),(.slice x9v5 x9N x9C),(.slice x9v6 x9N1 x9C1)]),(.agg #[(.int .u8 x11),(.slice x11v1 x11N x11C)])] w5 fun v4 w6 =>
 ∃ x12 : Int,v4 = (.int .u64 x12) /\
 (CALL PG 172 [(.pointer (some (a5.add 5))),(.int .u64 x12)] w6 fun v5 w7 =>
 v5 = (.tuple #[]) /\
 (RD PG (loadVar 185 a5) w7 fun v6 =>
 ∃ x14 : Bool,∃ x14v1 : Bool,∃ x14v2 : Int,∃ x14v3 : Int,∃ x14v4 : Int,∃ x14v5 : Int,v6 = (.agg #[(.bool x14),(.bool x14v1),(.int .u64 x14v2),(.int .u64 x14v3),(.int .u32 x14v4),(.int .u64 x14v5)]) /\
 (CALL PG 179 [(.agg #[(.bool x14),(.bool x14v1),(.int .u64 x14v2),(.int .u64 x14v3),(.int .u32 x14v4),(.int .u64 x14v5)])] w7 fun v7 w8 =>
 ∃ x15 : Int,∃ (x15v1 : Option Addr) (x15N x15C : Nat),v7 = (.agg #[(.int .u8 x15),(.slice x15v1 x15N x15C)]) /\
 (RUNU PG (storeVar 122 a6 (.agg #[(.int .u8 x15),(.slice x15v1 x15N x15C)])) w8 fun w9 =>
 RD PG (loadVar 122 a6) w9 fun v9 =>
 ∃ r : Int,∃ (r1 : Option Addr) (rN rC : Nat),v9 = (.agg #[(.int .u8 r),(.slice r1 rN rC)]) /\
 (Q (.agg #[(.int .u8 r),(.slice r1 rN rC)]) w9)))))))))))
theorem call149 {k : Int} {k1 : Int} {s : Int} {s1 : Int} {s2 : Int} {s3 : Int} {s4 : Int} {s5 : Option Addr} {sN sC : Nat} {s6 : Option Addr} {sN1 sC1 : Nat} {x : Bool} {x1 : Bool} {x2 : Int} {x3 : Int} {x4 : Int} {x5 : Int} {w : World} {Q : QP} (h_ : N149 k k1 s s1 s2 s3 s4 s5 sN sC s6 sN1 sC1 x x1 x2 x3 x4 x5 w Q) : CALL PG 149 [(.agg #[(.int .u64 k),(.int .u64 k1)]),(.agg #[(.int .u16 s),(.int .u16 s1),(.int .u32 s2),(.int .u32 s3),(.int .u8 s4),(.slice s5 sN sC),(.slice s6 sN1 sC1)]),(.agg #[(.bool x),(.bool x1),(.int .u64 x2),(.int .u64 x3),(.int .u32 x4),(.int .u64 x5)])] w Q:=calls_vq .nil tabOk Tryz.func149 (by kernel_rfl) h_
def N179 (d : Bool) (d1 : Bool) (d2 : Int) (d3 : Int) (d4 : Int) (d5 : Int) (w : World) (Q : QP) : Prop :=
 RUNA PG (Instr.box 185 (.agg #[(.bool d),(.bool d1),(.int .u64 d2),(.int .u64 d3),(.int .u32 d4),(.int .u64 d5)])) w fun a1 w1 =>
 RUNA PG (Instr.alloc 122 true (.tuple #[])) w1 fun a2 w2 =>
 ∃ S : World -> Prop,S (w2.drew) /\
 (RDSB PG (loadVar 4 (a1.add 0)) S fun x4 =>
 RDSB PG (loadVar 4 (a1.add 1)) S fun x6 =>
 RDSI PG (loadVar 25 (a1.add 2)) .u64 S fun x10 =>
 RDSI PG (loadVar 25 (a1.add 3)) .u64 S fun x13 =>
 RDSI PG (loadVar 26 (a1.add 4)) .u32 S fun x16 =>
 RDSI PG (loadVar 25 ((a1.add 5).add 0)) .u64 S fun x20 =>
 CALL PG 204 [(.bool x4),(.bool x6)] (w2.drew) fun v w3 =>
 ∃ x7 : Int,v = (.int .u8 x7) /\
 (∃ S1 : World -> Prop,(∀ x,S1 x -> S x) /\ S1 w3 /\
 (CALL PG 127 [(.int .u8 x7)] w3 fun v1 w4 =>
 ∃ x8 : Int,∃ x8v1 : Int,v1 = (.agg #[(.int .i64 x8),(.int .u64 x8v1)]) /\
 (∃ S2 : World -> Prop,(∀ x,S2 x -> S1 x) /\ S2 w4 /\
 (CALL PG 125 [(.int .u64 x10)] w4 fun v2 w5 =>
 ∃ x11 : Int,∃ x11v1 : Int,v2 = (.agg #[(.int .i64 x11),(.int .u64 x11v1)]) /\
 (∃ S3 : World -> Prop,(∀ x,S3 x -> S2 x) /\ S3 w5 /\
 (CALL PG 125 [(.int .u64 x13)] w5 fun v3 w6 =>
 ∃ x14 : Int,∃ x14v1 : Int,v3 = (.agg #[(.int .i64 x14),(.int .u64 x14v1)]) /\
 (∃ S4 : World -> Prop,(∀ x,S4 x -> S3 x) /\ S4 w6 /\
 (CALL PG 126 [(.int .u32 x16)] w6 fun v4 w7 =>
 ∃ x17 : Int,∃ x17v1 : Int,v4 = (.agg #[(.int .i64 x17),(.int .u64 x17v1)]) /\
 (∃ S5 : World -> Prop,(∀ x,S5 x -> S4 x) /\ S5 w7 /\
 (CALL PG 125 [(.int .u64 x20)] w7 fun v5 w8 =>
 ∃ x21 : Int,∃ x21v1 : Int,v5 = (.agg #[(.int .i64 x21),(.int .u64 x21v1)]) /\
 (RUNL PG (Instr.buildSlice 263 5 #[(0,(.agg #[(.int .i64 x8),(.int .u64 x8v1)])),(1,(.agg #[(.int .i64 x11),(.int .u64 x11v1)])),(2,(.agg #[(.int .i64 x14),(.int .u64 x14v1)])),(3,(.agg #[(.int .i64 x17),(.int .u64 x17v1)])),(4,(.agg #[(.int .i64 x21),(.int .u64 x21v1)]))]) w8 fun x22 x22N x22C w9 =>
 CALL PG 124 [(.slice none 0 0),(.slice x22 x22N x22C)] w9 fun v6 w10 =>
 ∃ (x23 : Option Addr) (x23N x23C : Nat),v6 = (.slice x23 x23N x23C) /\
 (RD PG (Instr.build 122 #[(0,(.int .u8 3)),(1,(.slice x23 x23N x23C))]) w10 fun v7 =>
 ∃ x24 : Int,∃ (x24v1 : Option Addr) (x24N x24C : Nat),v7 = (.agg #[(.int .u8 x24),(.slice x24v1 x24N x24C)]) /\
 (RUNU PG (storeVar 122 a2 (.agg #[(.int .u8 x24),(.slice x24v1 x24N x24C)])) w10 fun w11 =>
 RD PG (loadVar 122 a2) w11 fun v9 =>
 ∃ r : Int,∃ (r1 : Option Addr) (rN rC : Nat),v9 = (.agg #[(.int .u8 r),(.slice r1 rN rC)]) /\
 (Q (.agg #[(.int .u8 r),(.slice r1 rN rC)]) w11)))))))))))))))
theorem call179 {d : Bool} {d1 : Bool} {d2 : Int} {d3 : Int} {d4 : Int} {d5 : Int} {w : World} {Q : QP} (h_ : N179 d d1 d2 d3 d4 d5 w Q) : CALL PG 179 [(.agg #[(.bool d),(.bool d1),(.int .u64 d2),(.int .u64 d3),(.int .u32 d4),(.int .u64 d5)])] w Q:=calls_vq .nil tabOk Tryz.func179 (by kernel_rfl) h_
def N204 (a : Bool) (b : Bool) (w : World) (Q : QP) : Prop :=
 IFB a
 (LETI (IntKind.u8.wrap (BitVec.ofInt (IntKind.u8.bits) 0 ||| BitVec.ofInt (IntKind.u8.bits) 1).toNat) fun n =>
 IFB b
 (LETI (IntKind.u8.wrap (BitVec.ofInt (IntKind.u8.bits) n ||| BitVec.ofInt (IntKind.u8.bits) 2).toNat) fun n1 =>
 LETI n1 fun x4 =>
 Q (.int .u8 x4) w)
 (LETI n fun x4v1 =>
 Q (.int .u8 x4v1) w))
 (IFB b
 (LETI (IntKind.u8.wrap (BitVec.ofInt (IntKind.u8.bits) 0 ||| BitVec.ofInt (IntKind.u8.bits) 2).toNat) fun n2 =>
 LETI n2 fun x4v2 =>
 Q (.int .u8 x4v2) w)
 (LETI 0 fun x4v3 =>
 Q (.int .u8 x4v3) w))
theorem call204 {a : Bool} {b : Bool} {w : World} {Q : QP} (h_ : N204 a b w Q) : CALL PG 204 [(.bool a),(.bool b)] w Q:=calls_vq .nil tabOk Tryz.func204 (by kernel_rfl) h_
end Go.Br
/- The option of data: as bytes,with its sum,read. -/
set_option linter.unusedVariables false
set_option linter.unusedSimpArgs false
set_option linter.unnecessarySimpa false
namespace Go.Br
open Go
instance biMacDataa : Bld PG (Instr.build 185 #[]) (.agg #[.bool false,.bool false,.int .u64 0,.int .u64 0,.int .u32 0,.int .u64 0]):=⟨fun w => by kernel_rfl⟩
instance biMacDatab (x0 : Int) : Bld PG (Instr.build 126 #[(0,.int .u64 x0)]) (.agg #[.int .u64 x0]):=⟨fun w => by kernel_rfl⟩
instance biMacDatac (x0 : Bool) (x1 : Bool) (x2 : Int) (x3 : Int) (x4 : Int) (x5 : Int) : Bld PG (Instr.build 185 #[(0,.bool x0),(1,.bool x1),(2,.int .u64 x2),(3,.int .u64 x3),(4,.int .u32 x4),(5,.agg #[.int .u64 x5])]) (.agg #[.bool x0,.bool x1,.int .u64 x2,.int .u64 x3,.int .u32 x4,.int .u64 x5]):=⟨fun w => by kernel_rfl⟩
instance biMacDatad : Zro PG 185 6 40 (.agg #[.bool false,.bool false,.int .u64 0,.int .u64 0,.int .u32 0,.int .u64 0]):=⟨tiOf (by kernel_rfl)⟩
instance biMacDatae : Zro PG 122 2 32 (.agg #[.int .u8 0,.slice none 0 0]):=⟨tiOf (by kernel_rfl)⟩
instance biMacDataf (x0 : Int) (x1 : Option Addr) (n1 c1 : Nat) : Bld PG (Instr.build 122 #[(0,.int .u8 x0),(1,.slice x1 n1 c1)]) (.agg #[.int .u8 x0,.slice x1 n1 c1]):=⟨fun w => by kernel_rfl⟩
attribute [local irreducible] Addr.add RD RDS RUN RUNU NILC LETB CALL CALLX CALLV
structure Dt where
 fin : Bool
 probe : Bool
 seq : Int
 ack : Int
 win : Int
 tgTag : Int
def dtc (x : Dt) : List Value:=[.bool x.fin,.bool x.probe,.int .u64 x.seq,.int .u64 x.ack,.int .u32 x.win,.int .u64 x.tgTag]
abbrev dtcv (x : Dt) : Value:=.agg #[.bool x.fin,.bool x.probe,.int .u64 x.seq,.int .u64 x.ack,.int .u32 x.win,.int .u64 x.tgTag]
def bitsD (d : Dt) : Int:=(if d.fin then 1 else 0) + (if d.probe then 2 else 0)
def dataB (d : Dt) : List UInt8:=beB (bitsD d) 1 ++ (beB d.seq 8 ++ (beB d.ack 8 ++ (beB d.win 4 ++ beB d.tgTag 8)))
structure DtOk (d : Dt) : Prop where
 seq : 0 <= d.seq /\ d.seq < 18446744073709551616
 ack : 0 <= d.ack /\ d.ack < 18446744073709551616
 win : 0 <= d.win /\ d.win < 4294967296
 tag : 0 <= d.tgTag /\ d.tgTag < 18446744073709551616
theorem bitsD_range (d : Dt) : 0 <= bitsD d /\ bitsD d < 256:=by
 unfold bitsD
 cases d.fin <;> cases d.probe <;> decide
theorem dataB_length (d : Dt) : (dataB d).length = 29:=by simp [dataB,beB_length]
def cutsN : List Nat -> List UInt8 -> List Nat
 | [],_ => []
 | n :: r,b => beN (b.take n) :: cutsN r (b.drop n)
theorem getS_gen : ∀ {Sz : List Nat} {b : List UInt8},(∀ n ∈ Sz,1 <= n /\ n <= 8) -> getS Sz b = if b.length < Sz.sum then none else some (cutsN Sz b,b.drop Sz.sum)
 | [],b,_ => by simp [getS,cutsN]
 | n :: r,b,h => by
  have h1:=h n (List.mem_cons_self ..)
  rw [getS,List.sum_cons]
  by_cases hn : b.length < n
  ·rw [if_pos (.inr (.inr hn)),if_pos (by omega)]
  ·rw [if_neg (by omega),getS_gen fun m hm => h m (List.mem_cons_of_mem _ hm),List.length_drop]
   by_cases hs : b.length < n + r.sum
   ·rw [if_pos (by omega),if_pos hs]; rfl
   ·rw [if_neg (by omega),if_neg hs,List.drop_drop]; rfl
theorem gotS_gen {Sz : List Nat} {b : List UInt8} (h : ∀ n ∈ Sz,1 <= n /\ n <= 8) : gotS Sz b = if b.length = Sz.sum then some (cutsN Sz b) else none:=by
 unfold gotS
 rw [getS_gen h]
 by_cases h1 : b.length < Sz.sum
 ·rw [if_pos h1,if_neg (by omega)]
 ·rw [if_neg h1]
  by_cases h2 : b.length = Sz.sum
  ·rw [if_pos h2,List.drop_eq_nil_of_le (by omega)]
  ·rw [if_neg h2]
   cases hd : b.drop Sz.sum with
   | nil => have:=congrArg List.length hd; simp at this; omega
   | cons x r => rfl
def dataD (bs : List UInt8) : Dt:=⟨beN (bs.take 1) % 2 == 1,beN (bs.take 1) / 2 % 2 == 1,(beN ((bs.drop 1).take 8) : Nat),(beN ((bs.drop 9).take 8) : Nat),(beN ((bs.drop 17).take 4) : Nat),(beN ((bs.drop 21).take 8) : Nat)⟩
def dt0 : Dt:=⟨false,false,0,0,0,0⟩
def parseD (o : Int × List UInt8) : Option Dt:=if o.1 = 3 /\ o.2.length = 29 /\ beN (o.2.take 1) <= 3 then some (dataD o.2) else none
theorem bitsN {n : Nat} (h : n <= 3) : ((IntKind.u64.wrap (BitVec.ofInt (IntKind.u64.bits) (n : Int) &&& BitVec.ofInt (IntKind.u64.bits) (1 : Int)).toNat) == (1 : Int)) = (n % 2 == 1) /\
  ((IntKind.u64.wrap (BitVec.ofInt (IntKind.u64.bits) (n : Int) &&& BitVec.ofInt (IntKind.u64.bits) (2 : Int)).toNat) == (2 : Int)) = (n / 2 % 2 == 1):=by
 have : n = 0 ∨ n = 1 ∨ n = 2 ∨ n = 3:=by omega
 rcases this with rfl | rfl | rfl | rfl <;> decide +kernel
theorem dataD_dataB {d : Dt} (ok : DtOk d) : dataD (dataB d) = d:=by
 obtain ⟨h1,h2,h3,h4⟩:=ok
 have t1 : (dataB d).take 1 = beB (bitsD d) 1:=by simp [dataB,beB_length,List.take_append]
 have t2 : ((dataB d).drop 1).take 8 = beB d.seq 8:=by simp [dataB,beB_length,List.take_append,List.drop_append]
 have t3 : ((dataB d).drop 9).take 8 = beB d.ack 8:=by simp [dataB,beB_length,List.take_append,List.drop_append]
 have t4 : ((dataB d).drop 17).take 4 = beB d.win 4:=by
  have e : dataB d = (beB (bitsD d) 1 ++ beB d.seq 8 ++ beB d.ack 8) ++ (beB d.win 4 ++ beB d.tgTag 8):=by simp [dataB]
  rw [e,List.drop_left' (by simp [beB_length]),List.take_left' (by simp [beB_length])]
 have t5 : ((dataB d).drop 21).take 8 = beB d.tgTag 8:=by
  have e : dataB d = (beB (bitsD d) 1 ++ beB d.seq 8 ++ beB d.ack 8 ++ beB d.win 4) ++ (beB d.tgTag 8):=by simp [dataB]
  rw [e,List.drop_left' (by simp [beB_length]),List.take_of_length_le (by simp [beB_length])]
 have hb:=bitsD_range d
 unfold dataD
 rw [t1,t2,t3,t4,t5]
 have e1:=beN_beB 1 hb.1 (by simpa using hb.2)
 have e2:=beN_beB 8 h1.1 (by simpa using h1.2)
 have e3:=beN_beB 8 h2.1 (by simpa using h2.2)
 have e4:=beN_beB 4 h3.1 (by simpa using h3.2)
 have e5:=beN_beB 8 h4.1 (by simpa using h4.2)
 rw [e2,e3,e4,e5]
 obtain ⟨fin,probe,seq,ack,win,tg⟩:=d
 generalize beN (beB (bitsD ⟨fin,probe,seq,ack,win,tg⟩) 1) = n at e1
 cases fin <;> cases probe <;> simp [bitsD] at e1 <;> (have : n = 0 ∨ n = 1 ∨ n = 2 ∨ n = 3:=by omega) <;> rcases this with rfl | rfl | rfl | rfl <;> first | rfl | omega
theorem parseD_dataB {d : Dt} (ok : DtOk d) : parseD (3,dataB d) = some d:=by
 have hb:=bitsD_range d
 have t1 : (dataB d).take 1 = beB (bitsD d) 1:=by simp [dataB,beB_length,List.take_append]
 have e1:=beN_beB 1 hb.1 (by simpa using hb.2)
 have h3 : bitsD d <= 3:=by unfold bitsD; cases d.fin <;> cases d.probe <;> decide
 unfold parseD
 rw [if_pos ⟨rfl,dataB_length d,by rw [t1]; omega⟩,dataD_dataB ok]
section
variable {c : Ctx} {w : World} {L R : List SA}
theorem bits_ok {d : Dt} {Q : Value -> World -> Prop} (hk : Q (.int .u8 (bitsD d)) w) : CALL PG 204 [.bool d.fin,.bool d.probe] w Q:=by
 obtain ⟨fin,probe,seq,ack,win,tg⟩:=d
 unfold bitsD at hk
 refine call204 ?_
 unfold N204
 cases fin <;> cases probe
 ·exact iff_ rfl (iff_ rfl (leti rfl hk))
 ·exact iff_ rfl (ift rfl (leti rfl (leti (y:=2) (by decide) hk)))
 ·exact ift rfl (leti rfl (iff_ rfl (leti (y:=1) (by decide) hk)))
 ·exact ift rfl (leti rfl (ift rfl (leti rfl (leti (y:=3) (by decide) hk))))
theorem odata_ok (h : St c w L) {d : Dt} (ok : DtOk d) {Q : Value -> World -> Prop} (hk : ∀ o w',opl o = (3,dataB d) -> o.bodys.length <= o.bodyC -> St c w' (opp o :: L) -> Q (opxv o) w') : CALL PG 179 [dtcv d] w Q:=by
 have hb:=bitsD_range d
 obtain ⟨h1,h2,h3,h4⟩:=ok
 refine call179 ?_
 unfold N179
 refine h.box (vs:=dtc d) fun q1 w' h => ?_
 refine h.allocZ fun q2 w' h => ?_
 have h:=h.drew
 refine ⟨fun w => St c w [blk q1 185 (dtc d)],h.sub (.cons (.tail .head) (.nil)),?_⟩
 refine St.rdsB (B:=q1) 0 (St.rdsB (B:=q1) 1 (St.rdsI (B:=q1) 2 (St.rdsI (B:=q1) 3 (St.rdsI (B:=q1) 4 (St.rdsI2 (B:=q1) 5 0 ?_)))))
 refine bits_ok (d:=d) ⟨_,rfl,⟨_,fun _ h => h,h.sub (.cons (.tail .head) (.nil)),?_⟩⟩
 refine packB_ok h hb.1 hb.2 fun w' h => ?_
 (repeat apply exi)
 apply exr
 refine ⟨_,fun _ h => h,h.sub (.cons (.tail .head) (.nil)),?_⟩
 refine packQ_ok h fun w' h => ?_
 (repeat apply exi)
 apply exr
 refine ⟨_,fun _ h => h,h.sub (.cons (.tail .head) (.nil)),?_⟩
 refine packQ_ok h fun w' h => ?_
 (repeat apply exi)
 apply exr
 refine ⟨_,fun _ h => h,h.sub (.cons (.tail .head) (.nil)),?_⟩
 refine packW_ok h h3.1 h3.2 fun w' h => ?_
 (repeat apply exi)
 apply exr
 refine ⟨_,fun _ h => h,h.sub (.cons (.tail .head) (.nil)),?_⟩
 refine packQ_ok h fun w' h => ?_
 (repeat apply exi)
 apply exr
 refine h.lit (n:=5) 223 2 (([⟨1,bitsD d⟩,⟨8,d.seq⟩,⟨8,d.ack⟩,⟨4,d.win⟩,⟨8,d.tgTag⟩] : List Fd).flatMap fd) (fun q3 w' h => ?_) (hl:=by intro w; generalize bitsD d = b; kernel_rfl)
 refine pput_ok h (A:=none) (bs:=[]) (C:=0) (fs:=[⟨1,bitsD d⟩,⟨8,d.seq⟩,⟨8,d.ack⟩,⟨4,d.win⟩,⟨8,d.tgTag⟩]) RdIn.nil (RdIn.own .head) (by simp [FdOk]; omega) (by simp) (by simp) fun O k w' h => ⟨_,_,_,rfl,?_⟩
 have e1 : ([] : List UInt8) ++ ([⟨1,bitsD d⟩,⟨8,d.seq⟩,⟨8,d.ack⟩,⟨4,d.win⟩,⟨8,d.tgTag⟩] : List Fd).flatMap fdb = dataB d:=by simp [fdb,dataB]
 rw [e1] at h ⊢
 refine RD.bld ?_
 (repeat apply exi)
 apply exr
 refine h.stG (B:=q2) fun w' h => ?_
 refine h.rdG (B:=q2) ?_
 (repeat apply exi)
 apply exr
 have h : St c w' (own 5 1 O (dataB d).length k (bvs (dataB d)) :: L):=h.sub (.cons (.tail .head) ((Sub.same _).more.more.more))
 exact hk ⟨3,O,k,dataB d⟩ _ rfl (h.own .head).le h.ownRows
theorem right_ok2 (h : St c w L) {k0 k1 : Int} {s : Sg} (hs : SgIn L s) (ok : SgOk s.pl) {o : Opx} (ho : RdIn L o.body (bvs o.bodys)) (hc : o.bodys.length <= o.bodyC) (hk1 : 0 <= o.kind /\ o.kind < 256) (hlen : o.bodys.length <= 255) {tag : Int} {Q : Value -> World -> Prop}
  (hk : ∀ w',St c w' L -> Q (.bool (tagS k0 k1 s.pl (opl o) == tag)) w') : CALL PG 137 [.agg #[.int .u64 k0,.int .u64 k1],sgv s,opxv o,.int .u64 tag] w Q:=by
 refine call137 ?_
 unfold N137
 refine h.box (vs:=[.int .u64 k0,.int .u64 k1]) fun q0 w' h => ?_
 refine h.box (vs:=sgc s) fun q1 w' h => ?_
 refine h.box (vs:=opx o) fun q2 w' h => ?_
 refine h.rdG (B:=q0) ?_
 (repeat apply exi)
 apply exr
 refine h.rdG (B:=q1) ?_
 (repeat apply exi)
 apply exr
 refine h.rdG (B:=q2) ?_
 (repeat apply exi)
 apply exr
 refine tag_ok h hs.more.more.more ok ho.more.more.more hc hk1 hlen fun w' h => ?_
 (repeat apply exi)
 apply exr
 exact letb rfl (hk _ h.drop.drop.drop)
theorem macdata_ok (h : St c w L) {k0 k1 : Int} {s : Sg} (hs : SgIn L s) (ok : SgOk s.pl) {d : Dt} (okd : DtOk d) {Q : Value -> World -> Prop}
  (hk : ∀ o w',opl o = (3,dataB { d with tgTag:=tagS k0 k1 s.pl (3,dataB d) }) -> o.bodys.length <= o.bodyC -> St c w' (opp o :: L) -> Q (opxv o) w') : CALL PG 149 [.agg #[.int .u64 k0,.int .u64 k1],sgv s,dtcv d] w Q:=by
 refine call149 ?_
 unfold N149
 refine h.box (vs:=[.int .u64 k0,.int .u64 k1]) fun q0 w' h => ?_
 refine h.box (vs:=sgc s) fun q1 w' h => ?_
 refine h.box (vs:=dtc d) fun q2 w' h => ?_
 refine h.allocZ fun q3 w' h => ?_
 have h:=h.drew
 refine ⟨fun w => St c w [blk q0 28 [.int .u64 k0,.int .u64 k1],blk q1 118 (sgc s),blk q2 185 (dtc d)],h.sub (.cons (.tail (.tail (.tail .head))) (.cons (.tail (.tail .head)) (.cons (.tail .head) (.nil)))),?_⟩
 refine St.rdsG (B:=q0) ?_
 (repeat apply exi)
 apply exr
 refine St.rdsG (B:=q1) ?_
 (repeat apply exi)
 apply exr
 refine St.rdsG (B:=q2) ?_
 (repeat apply exi)
 apply exr
 refine odata_ok h okd fun o w' eo hc h => ?_
 (repeat apply exi)
 apply exr
 refine ⟨_,fun _ h => h,h.sub (.cons (.tail (.tail (.tail (.tail .head)))) (.cons (.tail (.tail (.tail .head))) (.cons (.tail (.tail .head)) (.nil)))),?_⟩
 have ek : o.kind = 3:=congrArg Prod.fst eo
 have eb : o.bodys = dataB d:=congrArg Prod.snd eo
 refine tag_ok h hs.more.more.more.more.more ok (RdIn.rows .head) hc (by rw [ek]; decide) (by rw [eb,dataB_length]; decide) fun w' h => ?_
 rw [eo]
 have htr : 0 <= tagS k0 k1 s.pl (3,dataB d) /\ tagS k0 k1 s.pl (3,dataB d) < 18446744073709551616:=sipS_range _ _ _
 generalize tagS k0 k1 s.pl (3,dataB d) = tg at hk htr ⊢
 (repeat apply exi)
 apply exr
 have h:=h.sub (show Sub _ (blk q2 185 (dtc d) :: blk q3 122 (opx ⟨0,none,0,[]⟩) :: L) from (.cons (.tail (.tail .head)) (.cons (.tail .head) ((Sub.same _).more.more.more))))
 refine call172 ?_
 unfold N172
 refine nilc ?_
 refine h.st2 (B:=q2) 5 0 fun w' h => ⟨rfl,?_⟩
 have h : St c w' (blk q2 185 (dtc { d with tgTag:=tg }) :: blk q3 122 (opx ⟨0,none,0,[]⟩) :: L):=h
 refine h.rdG (B:=q2) ?_
 (repeat apply exi)
 apply exr
 refine odata_ok (d:={ d with tgTag:=tg }) h ⟨okd.seq,okd.ack,okd.win,htr⟩ fun o w' eo hc h => ?_
 (repeat apply exi)
 apply exr
 refine h.stG (B:=q3) (fun w' h => ?_) (hl:=opx_length _)
 refine h.rdG (B:=q3) ?_
 (repeat apply exi)
 apply exr
 exact hk o _ eo hc (h.sub (.cons (.tail .head) ((Sub.same _).more.more)))
theorem pdata_ok (h : St c w L) {o : Opx} (hr : RdIn L o.body (bvs o.bodys)) (hC : o.bodys.length <= o.bodyC) (hb : o.bodys.length <= 1000000) {Q : Value -> World -> Prop}
  (hno : parseD (opl o) = none -> ∀ w',St c w' L -> Q (.tuple #[dtcv dt0,.bool false]) w') (hyes : ∀ d,parseD (opl o) = some d -> ∀ w',St c w' L -> Q (.tuple #[dtcv d,.bool true]) w') : CALL PG 136 [opxv o] w Q:=by
 refine call136 ?_
 unfold N136
 refine h.box (vs:=opx o) fun q1 w' h => ?_
 refine h.allocZ fun q2 w' h => ?_
 refine h.rdL (B:=q1) 1 ?_
 refine h.lit (n:=5) 3 1 (([1,8,8,4,8] : List Nat).flatMap nv) fun q3 w' h => ?_
 have hg : gotS [1,8,8,4,8] o.bodys = if o.bodys.length = 29 then some (cutsN [1,8,8,4,8] o.bodys) else none:=gotS_gen (by simp)
 refine all_ok h (Sz:=[1,8,8,4,8]) hr.more.more.more rfl hC hb (RdIn.own .head) rfl (by decide) (by simp) (fun e w' h => ?_) fun l e w' O d1 h => ?_
 ·have hl : o.bodys.length ≠ 29:=fun hl => by rw [hg,if_pos hl] at e; cases e
  have hn : parseD (opl o) = none:=if_neg fun hc => hl hc.2.1
  (repeat apply exi)
  apply exr
  refine letb rfl (h.rdI (B:=q1) 0 ?_)
  have no : ∀ {w'},St c w' (blk q2 185 (dtc dt0) :: L) -> Q (.tuple #[dtcv dt0,.bool false]) w':=fun h => hno hn _ h.drop
  have h : St c w' (blk q2 185 (dtc dt0) :: L):=h.sub (.cons (.tail .head) ((Sub.same _).more.more))
  have fin : ∀ {w'},St c w' (blk q2 185 (dtc dt0) :: L) -> RD PG (Instr.build 185 #[]) w' fun v => ∃ (a b : Bool) (x y z t : Int),v = .agg #[.bool a,.bool b,.int .u64 x,.int .u64 y,.int .u32 z,.int .u64 t] /\ RUNU PG (storeVar 185 ⟨q2,0,none⟩ (.agg #[.bool a,.bool b,.int .u64 x,.int .u64 y,.int .u32 z,.int .u64 t])) w' fun w5 =>
    RD PG (loadVar 185 ⟨q2,0,none⟩) w5 fun v => ∃ (a b : Bool) (x y z t : Int),v = .agg #[.bool a,.bool b,.int .u64 x,.int .u64 y,.int .u32 z,.int .u64 t] /\ Q (.tuple #[.agg #[.bool a,.bool b,.int .u64 x,.int .u64 y,.int .u32 z,.int .u64 t],.bool false]) w5:=fun h => by
   refine RD.bld ?_
   (repeat apply exi)
   apply exr
   refine h.stG (B:=q2) fun w' h => ?_
   refine h.rdG (B:=q2) ?_
   (repeat apply exi)
   apply exr
   exact no h
  exact ifn (fun hk => fin h) fun hk => ift rfl (fin h)
 ·rw [hg] at e
  split at e
  rotate_left
  ·cases e
  rename_i hl
  obtain rfl : cutsN [1,8,8,4,8] o.bodys = l:=Option.some.inj e
  have el : cutsN [1,8,8,4,8] o.bodys = [beN (o.bodys.take 1),beN ((o.bodys.drop 1).take 8),beN ((o.bodys.drop 9).take 8),beN ((o.bodys.drop 17).take 4),beN ((o.bodys.drop 21).take 8)]:=by simp [cutsN,List.drop_drop]
  rw [el] at h ⊢
  (repeat apply exi)
  apply exr
  refine letb rfl (h.rdI (B:=q1) 0 ?_)
  have no : parseD (opl o) = none -> ∀ {w' X},St c w' (X :: blk q2 185 (dtc dt0) :: L) -> RD PG (Instr.build 185 #[]) w' fun v => ∃ (a b : Bool) (x y z t : Int),v = .agg #[.bool a,.bool b,.int .u64 x,.int .u64 y,.int .u32 z,.int .u64 t] /\ RUNU PG (storeVar 185 ⟨q2,0,none⟩ (.agg #[.bool a,.bool b,.int .u64 x,.int .u64 y,.int .u32 z,.int .u64 t])) w' fun w5 =>
    RD PG (loadVar 185 ⟨q2,0,none⟩) w5 fun v => ∃ (a b : Bool) (x y z t : Int),v = .agg #[.bool a,.bool b,.int .u64 x,.int .u64 y,.int .u32 z,.int .u64 t] /\ Q (.tuple #[.agg #[.bool a,.bool b,.int .u64 x,.int .u64 y,.int .u32 z,.int .u64 t],.bool false]) w5:=fun hn {w' X} h => by
   refine RD.bld ?_
   (repeat apply exi)
   apply exr
   refine h.stG (B:=q2) fun w' h => ?_
   refine h.rdG (B:=q2) ?_
   (repeat apply exi)
   apply exr
   exact hno hn _ h.drop.drop
  have h:=h.sub (show Sub _ (own 25 1 O 5 d1 (([beN (o.bodys.take 1),beN ((o.bodys.drop 1).take 8),beN ((o.bodys.drop 9).take 8),beN ((o.bodys.drop 17).take 4),beN ((o.bodys.drop 21).take 8)] : List Nat).flatMap uv) :: blk q2 185 (dtc dt0) :: L) from (.cons .head (.cons (.tail .head) ((Sub.same _).more.more))))
  refine ifn (fun hk => no (if_neg fun hc => hk hc.1) h) fun hk => iff_ rfl ?_
  have rd : ∀ {A},A = O -> RdIn (own 25 1 O 5 d1 (([beN (o.bodys.take 1),beN ((o.bodys.drop 1).take 8),beN ((o.bodys.drop 9).take 8),beN ((o.bodys.drop 17).take 4),beN ((o.bodys.drop 21).take 8)] : List Nat).flatMap uv) :: blk q2 185 (dtc dt0) :: L) A (([beN (o.bodys.take 1),beN ((o.bodys.drop 1).take 8),beN ((o.bodys.drop 9).take 8),beN ((o.bodys.drop 17).take 4),beN ((o.bodys.drop 21).take 8)] : List Nat).flatMap uv):=fun e => by subst e; exact RdIn.own .head
  refine h.ix (z:=0) (i:=0) (rd rfl) rfl (fun a ha => ?_) (by show 0 < 5; decide)
  subst ha
  refine h.rdWI (i:=0) (rd rfl) rfl ?_
  refine ifd (fun hb3 => no (if_neg fun hc => ?_) h) fun hb3 => ?_
  ·have : beN (o.bodys.take 1) <= 3:=hc.2.2
   omega
  have hd : parseD (opl o) = some (dataD o.bodys):=if_pos ⟨hk,hl,by show beN (o.bodys.take 1) <= 3; omega⟩
  have h:=h.drew
  refine h.ix (z:=0) (i:=0) (rd rfl) rfl (fun a ha => ?_) (by show 0 < 5; decide)
  injection ha with ha
  subst ha
  refine h.rdWI (i:=0) (rd rfl) rfl ?_
  refine h.ix (z:=0) (i:=0) (rd rfl) rfl (fun a ha => ?_) (by show 0 < 5; decide)
  injection ha with ha
  subst ha
  refine h.rdWI (i:=0) (rd rfl) rfl ?_
  refine h.ix (z:=0) (i:=1) (rd rfl) rfl (fun a ha => ?_) (by show 1 < 5; decide)
  injection ha with ha
  subst ha
  refine h.rdWI (i:=1) (rd rfl) rfl ?_
  refine h.ix (z:=0) (i:=2) (rd rfl) rfl (fun a ha => ?_) (by show 2 < 5; decide)
  injection ha with ha
  subst ha
  refine h.rdWI (i:=2) (rd rfl) rfl ?_
  refine h.ix (z:=0) (i:=3) (rd rfl) rfl (fun a ha => ?_) (by show 3 < 5; decide)
  injection ha with ha
  subst ha
  refine h.rdWI (i:=3) (rd rfl) rfl ?_
  refine h.ix (z:=0) (i:=4) (rd rfl) rfl (fun a ha => ?_) (by show 4 < 5; decide)
  injection ha with ha
  subst ha
  refine h.rdWI (i:=4) (rd rfl) rfl ?_
  have hbn:=bitsN (n:=beN (o.bodys.take 1)) (by omega)
  rw [hbn.1,hbn.2,show IntKind.u32.wrap (beN ((o.bodys.drop 17).take 4) : Int) = (beN ((o.bodys.drop 17).take 4) : Int) by
   have : beN ((o.bodys.drop 17).take 4) < 256 ^ 4:=Nat.lt_of_lt_of_le (beN_lt _) (Nat.pow_le_pow_right (by decide) (by rw [List.length_take]; omega))
   rw [wrapU32]; omega]
  refine RD.bld ?_
  (repeat apply exi)
  apply exr
  refine RD.bld ?_
  (repeat apply exi)
  apply exr
  refine h.stG (B:=q2) fun w' h => ?_
  refine h.rdG (B:=q2) ?_
  (repeat apply exi)
  apply exr
  exact hyes _ hd _ h.drop.drop
end
end Go.Br
/- What the code of some functions says,as the core reads it; each reading is checked by the kernel. -/
set_option linter.unusedVariables false
set_option maxRecDepth 100000
namespace Go.Br
open Go Go.Proofs
def N86 (k : Int) (k1 : Int) (s : Int) (s1 : Int) (s2 : Int) (s3 : Int) (s4 : Int) (s5 : Option Addr) (sN sC : Nat) (s6 : Option Addr) (sN1 sC1 : Nat) (w : World) (Q : QP) : Prop :=
 RUNA PG (Instr.box 28 (.agg #[(.int .u64 k),(.int .u64 k1)])) w fun a2 w1 =>
 RUNA PG (Instr.box 118 (.agg #[(.int .u16 s),(.int .u16 s1),(.int .u32 s2),(.int .u32 s3),(.int .u8 s4),(.slice s5 sN sC),(.slice s6 sN1 sC1)])) w1 fun a3 w2 =>
 RUNA PG (Instr.alloc 185 true (.tuple #[])) w2 fun a4 w3 =>
 RD PG (loadVar 118 a3) w3 fun v =>
 ∃ x10 : Int,∃ x10v1 : Int,∃ x10v2 : Int,∃ x10v3 : Int,∃ x10v4 : Int,∃ (x10v5 : Option Addr) (x10N x10C : Nat),∃ (x10v6 : Option Addr) (x10N1 x10C1 : Nat),v = (.agg #[(.int .u16 x10),(.int .u16 x10v1),(.int .u32 x10v2),(.int .u32 x10v3),(.int .u8 x10v4),(.slice x10v5 x10N x10C),(.slice x10v6 x10N1 x10C1)]) /\
 (CALL PG 42 [(.agg #[(.int .u16 x10),(.int .u16 x10v1),(.int .u32 x10v2),(.int .u32 x10v3),(.int .u8 x10v4),(.slice x10v5 x10N x10C),(.slice x10v6 x10N1 x10C1)]),(.int .u8 3)] w3 fun v1 w4 =>
 ∃ x11 : Int,∃ (x11v1 : Option Addr) (x11N x11C : Nat),∃ x11v2 : Bool,v1 = (.tuple #[(.agg #[(.int .u8 x11),(.slice x11v1 x11N x11C)]),(.bool x11v2)]) /\
 (RUNA PG (Instr.alloc 122 true (.tuple #[])) w4 fun a6 w5 =>
 RUNU PG (storeVar 122 a6 (.agg #[(.int .u8 x11),(.slice x11v1 x11N x11C)])) w5 fun w6 =>
 LETB x11v2 fun okv =>
 IFB (!okv)
 (RD PG (Instr.build 185 #[]) w6 fun v2 =>
 ∃ x16 : Bool,∃ x16v1 : Bool,∃ x16v2 : Int,∃ x16v3 : Int,∃ x16v4 : Int,∃ x16v5 : Int,v2 = (.agg #[(.bool x16),(.bool x16v1),(.int .u64 x16v2),(.int .u64 x16v3),(.int .u32 x16v4),(.int .u64 x16v5)]) /\
 (RUNU PG (storeVar 185 a4 (.agg #[(.bool x16),(.bool x16v1),(.int .u64 x16v2),(.int .u64 x16v3),(.int .u32 x16v4),(.int .u64 x16v5)])) w6 fun w7 =>
 RD PG (loadVar 185 a4) w7 fun v4 =>
 ∃ r : Bool,∃ r1 : Bool,∃ r2 : Int,∃ r3 : Int,∃ r4 : Int,∃ r5 : Int,v4 = (.agg #[(.bool r),(.bool r1),(.int .u64 r2),(.int .u64 r3),(.int .u32 r4),(.int .u64 r5)]) /\
 (Q (.tuple #[(.agg #[(.bool r),(.bool r1),(.int .u64 r2),(.int .u64 r3),(.int .u32 r4),(.int .u64 r5)]),(.bool false)]) w7)))
 (RD PG (loadVar 122 a6) w6 fun v5 =>
 ∃ x18 : Int,∃ (x18v1 : Option Addr) (x18N x18C : Nat),v5 = (.agg #[(.int .u8 x18),(.slice x18v1 x18N x18C)]) /\
 (CALL PG 136 [(.agg #[(.int .u8 x18),(.slice x18v1 x18N x18C)])] w6 fun v6 w8 =>
 ∃ x19 : Bool,∃ x19v1 : Bool,∃ x19v2 : Int,∃ x19v3 : Int,∃ x19v4 : Int,∃ x19v5 : Int,∃ x19v6 : Bool,v6 = (.tuple #[(.agg #[(.bool x19),(.bool x19v1),(.int .u64 x19v2),(.int .u64 x19v3),(.int .u32 x19v4),(.int .u64 x19v5)]),(.bool x19v6)]) /\
 (RUNA PG (Instr.alloc 185 true (.tuple #[])) w8 fun a8 w9 =>
 RUNU PG (storeVar 185 a8 (.agg #[(.bool x19),(.bool x19v1),(.int .u64 x19v2),(.int .u64 x19v3),(.int .u32 x19v4),(.int .u64 x19v5)])) w9 fun w10 =>
 LETB x19v6 fun okv1 =>
 IFB (!okv1)
 (RD PG (Instr.build 185 #[]) w10 fun v7 =>
 ∃ x34 : Bool,∃ x34v1 : Bool,∃ x34v2 : Int,∃ x34v3 : Int,∃ x34v4 : Int,∃ x34v5 : Int,v7 = (.agg #[(.bool x34),(.bool x34v1),(.int .u64 x34v2),(.int .u64 x34v3),(.int .u32 x34v4),(.int .u64 x34v5)]) /\
 (RUNU PG (storeVar 185 a4 (.agg #[(.bool x34),(.bool x34v1),(.int .u64 x34v2),(.int .u64 x34v3),(.int .u32 x34v4),(.int .u64 x34v5)])) w10 fun w11 =>
 RD PG (loadVar 185 a4) w11 fun v9 =>
 ∃ r6 : Bool,∃ r7 : Bool,∃ r8 : Int,∃ r9 : Int,∃ r10 : Int,∃ r11 : Int,v9 = (.agg #[(.bool r6),(.bool r7),(.int .u64 r8),(.int .u64 r9),(.int .u32 r10),(.int .u64 r11)]) /\
 (Q (.tuple #[(.agg #[(.bool r6),(.bool r7),(.int .u64 r8),(.int .u64 r9),(.int .u32 r10),(.int .u64 r11)]),(.bool false)]) w11)))
 (RD PG (loadVar 28 a2) w10 fun v10 =>
 ∃ x25 : Int,∃ x25v1 : Int,v10 = (.agg #[(.int .u64 x25),(.int .u64 x25v1)]) /\
 (RD PG (loadVar 118 a3) w10 fun v11 =>
 ∃ x26 : Int,∃ x26v1 : Int,∃ x26v2 : Int,∃ x26v3 : Int,∃ x26v4 : Int,∃ (x26v5 : Option Addr) (x26N x26C : Nat),∃ (x26v6 : Option Addr) (x26N1 x26C1 : Nat),v11 = (.agg #[(.int .u16 x26),(.int .u16 x26v1),(.int .u32 x26v2),(.int .u32 x26v3),(.int .u8 x26v4),(.slice x26v5 x26N x26C),(.slice x26v6 x26N1 x26C1)]) /\
 (RD PG (loadVar 122 a6) w10 fun v12 =>
 ∃ x27 : Int,∃ (x27v1 : Option Addr) (x27N x27C : Nat),v12 = (.agg #[(.int .u8 x27),(.slice x27v1 x27N x27C)]) /\
 (RDI PG (loadVar 25 ((a8.add 5).add 0)) .u64 w10 fun x30 =>
 CALL PG 137 [(.agg #[(.int .u64 x25),(.int .u64 x25v1)]),(.agg #[(.int .u16 x26),(.int .u16 x26v1),(.int .u32 x26v2),(.int .u32 x26v3),(.int .u8 x26v4),(.slice x26v5 x26N x26C),(.slice x26v6 x26N1 x26C1)]),(.agg #[(.int .u8 x27),(.slice x27v1 x27N x27C)]),(.int .u64 x30)] w10 fun v13 w12 =>
 ∃ x31 : Bool,v13 = (.bool x31) /\
 (IFB (!x31)
 (RD PG (Instr.build 185 #[]) w12 fun v14 =>
 ∃ x34v6 : Bool,∃ x34v7 : Bool,∃ x34v8 : Int,∃ x34v9 : Int,∃ x34v10 : Int,∃ x34v11 : Int,v14 = (.agg #[(.bool x34v6),(.bool x34v7),(.int .u64 x34v8),(.int .u64 x34v9),(.int .u32 x34v10),(.int .u64 x34v11)]) /\
 (RUNU PG (storeVar 185 a4 (.agg #[(.bool x34v6),(.bool x34v7),(.int .u64 x34v8),(.int .u64 x34v9),(.int .u32 x34v10),(.int .u64 x34v11)])) w12 fun w13 =>
 RD PG (loadVar 185 a4) w13 fun v16 =>
 ∃ r12 : Bool,∃ r13 : Bool,∃ r14 : Int,∃ r15 : Int,∃ r16 : Int,∃ r17 : Int,v16 = (.agg #[(.bool r12),(.bool r13),(.int .u64 r14),(.int .u64 r15),(.int .u32 r16),(.int .u64 r17)]) /\
 (Q (.tuple #[(.agg #[(.bool r12),(.bool r13),(.int .u64 r14),(.int .u64 r15),(.int .u32 r16),(.int .u64 r17)]),(.bool false)]) w13)))
 (RD PG (loadVar 185 a8) w12 fun v17 =>
 ∃ x35 : Bool,∃ x35v1 : Bool,∃ x35v2 : Int,∃ x35v3 : Int,∃ x35v4 : Int,∃ x35v5 : Int,v17 = (.agg #[(.bool x35),(.bool x35v1),(.int .u64 x35v2),(.int .u64 x35v3),(.int .u32 x35v4),(.int .u64 x35v5)]) /\
 (RUNU PG (storeVar 185 a4 (.agg #[(.bool x35),(.bool x35v1),(.int .u64 x35v2),(.int .u64 x35v3),(.int .u32 x35v4),(.int .u64 x35v5)])) w12 fun w14 =>
 RD PG (loadVar 185 a4) w14 fun v19 =>
 ∃ r18 : Bool,∃ r19 : Bool,∃ r20 : Int,∃ r21 : Int,∃ r22 : Int,∃ r23 : Int,v19 = (.agg #[(.bool r18),(.bool r19),(.int .u64 r20),(.int .u64 r21),(.int .u32 r22),(.int .u64 r23)]) /\
 (Q (.tuple #[(.agg #[(.bool r18),(.bool r19),(.int .u64 r20),(.int .u64 r21),(.int .u32 r22),(.int .u64 r23)]),(.bool true)]) w14)))))))))))))
theorem call86 {k : Int} {k1 : Int} {s : Int} {s1 : Int} {s2 : Int} {s3 : Int} {s4 : Int} {s5 : Option Addr} {sN sC : Nat} {s6 : Option Addr} {sN1 sC1 : Nat} {w : World} {Q : QP} (h_ : N86 k k1 s s1 s2 s3 s4 s5 sN sC s6 sN1 sC1 w Q) : CALL PG 86 [(.agg #[(.int .u64 k),(.int .u64 k1)]),(.agg #[(.int .u16 s),(.int .u16 s1),(.int .u32 s2),(.int .u32 s3),(.int .u8 s4),(.slice s5 sN sC),(.slice s6 sN1 sC1)])] w Q:=calls_vq .nil tabOk Tryz.func86 (by kernel_rfl) h_
def N191 (k : Int) (k1 : Int) (s : Int) (s1 : Int) (s2 : Int) (s3 : Int) (s4 : Int) (s5 : Option Addr) (sN sC : Nat) (s6 : Option Addr) (sN1 sC1 : Nat) (w : World) (Q : QP) : Prop :=
 RUNA PG (Instr.box 28 (.agg #[(.int .u64 k),(.int .u64 k1)])) w fun a2 w1 =>
 RUNA PG (Instr.box 118 (.agg #[(.int .u16 s),(.int .u16 s1),(.int .u32 s2),(.int .u32 s3),(.int .u8 s4),(.slice s5 sN sC),(.slice s6 sN1 sC1)])) w1 fun a3 w2 =>
 RDL PG (loadVar 116 (a3.add 5)) w2 fun x11 x11N x11C =>
 ∃ I : Nat -> Option Addr -> Nat -> Nat -> Int -> World -> Prop,
 (∃ m,I m none 0 0 0 w2) /\
 (∀ m1 (out : Option Addr) (outN outC : Nat) (x13 : Int) (w3 : World),I m1 out outN outC x13 w3 -> (IFB (decide (x13 < (x11N : Int)))
 (IDX x11 x11N x13 fun a15 =>
 RD PG (loadVar 122 (a15.add (Int.toNat x13 * 2))) w3 fun v =>
 ∃ x16 : Int,∃ (x16v1 : Option Addr) (x16N x16C : Nat),v = (.agg #[(.int .u8 x16),(.slice x16v1 x16N x16C)]) /\
 (RUNA PG (Instr.alloc 122 true (.tuple #[])) w3 fun a7 w4 =>
 RUNU PG (storeVar 122 a7 (.agg #[(.int .u8 x16),(.slice x16v1 x16N x16C)])) w4 fun w5 =>
 RD PG (loadVar 122 a7) w5 fun v1 =>
 ∃ x18 : Int,∃ (x18v1 : Option Addr) (x18N x18C : Nat),v1 = (.agg #[(.int .u8 x18),(.slice x18v1 x18N x18C)]) /\
 (CALL PG 219 [(.agg #[(.int .u8 x18),(.slice x18v1 x18N x18C)])] w5 fun v2 w6 =>
 ∃ x19 : Int,∃ x19v1 : Int,∃ x19v2 : Int,∃ x19v3 : Int,∃ x19v4 : Bool,∃ x19v5 : Int,∃ x19v6 : Bool,v2 = (.tuple #[(.agg #[(.int .u8 x19),(.int .u32 x19v1),(.int .u8 x19v2),(.int .u8 x19v3),(.bool x19v4),(.int .u64 x19v5)]),(.bool x19v6)]) /\
 (RUNA PG (Instr.alloc 152 true (.tuple #[])) w6 fun a8 w7 =>
 RUNU PG (storeVar 152 a8 (.agg #[(.int .u8 x19),(.int .u32 x19v1),(.int .u8 x19v2),(.int .u8 x19v3),(.bool x19v4),(.int .u64 x19v5)])) w7 fun w8 =>
 LETB x19v6 fun okv =>
 IFB okv
 (RD PG (loadVar 28 a2) w8 fun v3 =>
 ∃ x24 : Int,∃ x24v1 : Int,v3 = (.agg #[(.int .u64 x24),(.int .u64 x24v1)]) /\
 (RD PG (loadVar 118 a3) w8 fun v4 =>
 ∃ x25 : Int,∃ x25v1 : Int,∃ x25v2 : Int,∃ x25v3 : Int,∃ x25v4 : Int,∃ (x25v5 : Option Addr) (x25N x25C : Nat),∃ (x25v6 : Option Addr) (x25N1 x25C1 : Nat),v4 = (.agg #[(.int .u16 x25),(.int .u16 x25v1),(.int .u32 x25v2),(.int .u32 x25v3),(.int .u8 x25v4),(.slice x25v5 x25N x25C),(.slice x25v6 x25N1 x25C1)]) /\
 (RD PG (loadVar 122 a7) w8 fun v5 =>
 ∃ x26 : Int,∃ (x26v1 : Option Addr) (x26N x26C : Nat),v5 = (.agg #[(.int .u8 x26),(.slice x26v1 x26N x26C)]) /\
 (RDI PG (loadVar 25 ((a8.add 5).add 0)) .u64 w8 fun x29 =>
 CALL PG 137 [(.agg #[(.int .u64 x24),(.int .u64 x24v1)]),(.agg #[(.int .u16 x25),(.int .u16 x25v1),(.int .u32 x25v2),(.int .u32 x25v3),(.int .u8 x25v4),(.slice x25v5 x25N x25C),(.slice x25v6 x25N1 x25C1)]),(.agg #[(.int .u8 x26),(.slice x26v1 x26N x26C)]),(.int .u64 x29)] w8 fun v6 w9 =>
 ∃ x30 : Bool,v6 = (.bool x30) /\
 (IFB x30
 (RD PG (loadVar 152 a8) w9 fun v7 =>
 ∃ x33 : Int,∃ x33v1 : Int,∃ x33v2 : Int,∃ x33v3 : Int,∃ x33v4 : Bool,∃ x33v5 : Int,v7 = (.agg #[(.int .u8 x33),(.int .u32 x33v1),(.int .u8 x33v2),(.int .u8 x33v3),(.bool x33v4),(.int .u64 x33v5)]) /\
 (RUNL PG (Instr.buildSlice 209 1 #[(0,(.agg #[(.int .u8 x33),(.int .u32 x33v1),(.int .u8 x33v2),(.int .u8 x33v3),(.bool x33v4),(.int .u64 x33v5)]))]) w9 fun x34 x34N x34C w10 =>
 RUNL PG (Builtin.append_ #[209,209] 209 #[(.slice out outN outC),(.slice x34 x34N x34C)]) w10 fun x35 x35N x35C w11 =>
 ∃ m2,m2 < m1 /\ I m2 x35 x35N x35C (IntKind.i64.wrap (x13 + 1)) w11))
 (∃ m3,m3 < m1 /\ I m3 out outN outC (IntKind.i64.wrap (x13 + 1)) w9))))))
 (∃ m4,m4 < m1 /\ I m4 out outN outC (IntKind.i64.wrap (x13 + 1)) w8)))))
 (Q (.slice out outN outC) w3)))
theorem call191 {k : Int} {k1 : Int} {s : Int} {s1 : Int} {s2 : Int} {s3 : Int} {s4 : Int} {s5 : Option Addr} {sN sC : Nat} {s6 : Option Addr} {sN1 sC1 : Nat} {w : World} {Q : QP} (h_ : N191 k k1 s s1 s2 s3 s4 s5 sN sC s6 sN1 sC1 w Q) : CALL PG 191 [(.agg #[(.int .u64 k),(.int .u64 k1)]),(.agg #[(.int .u16 s),(.int .u16 s1),(.int .u32 s2),(.int .u32 s3),(.int .u8 s4),(.slice s5 sN sC),(.slice s6 sN1 sC1)])] w Q:=calls_vq (.s .nil (.s .nil (.s (.s .nil (.u (.loop [(5,209),(13,3)] .nil))) .nil))) tabOk Tryz.func191 (by kernel_rfl) h_
def N219 (o : Int) (o1 : Option Addr) (oN oC : Nat) (w : World) (Q : QP) : Prop :=
 RUNA PG (Instr.box 122 (.agg #[(.int .u8 o),(.slice o1 oN oC)])) w fun a1 w1 =>
 RUNA PG (Instr.alloc 152 true (.tuple #[])) w1 fun a2 w2 =>
 RDL PG (loadVar 41 (a1.add 1)) w2 fun x8 x8N x8C =>
 RUNL PG (Instr.buildSlice 64 5 #[(0,(.int .i64 4)),(1,(.int .i64 1)),(2,(.int .i64 1)),(3,(.int .i64 1)),(4,(.int .i64 8))]) w2 fun x9 x9N x9C w3 =>
 CALL PG 82 [(.slice x8 x8N x8C),(.slice x9 x9N x9C)] w3 fun v w4 =>
 ∃ (x10 : Option Addr) (x10N x10C : Nat),∃ x10v1 : Bool,v = (.tuple #[(.slice x10 x10N x10C),(.bool x10v1)]) /\
 (LETB x10v1 fun okv =>
 RDI PG (loadVar 5 (a1.add 0)) .u8 w4 fun x14 =>
 IFB (decide (x14 < 4))
 (RD PG (Instr.build 152 #[]) w4 fun v1 =>
 ∃ x31 : Int,∃ x31v1 : Int,∃ x31v2 : Int,∃ x31v3 : Int,∃ x31v4 : Bool,∃ x31v5 : Int,v1 = (.agg #[(.int .u8 x31),(.int .u32 x31v1),(.int .u8 x31v2),(.int .u8 x31v3),(.bool x31v4),(.int .u64 x31v5)]) /\
 (RUNU PG (storeVar 152 a2 (.agg #[(.int .u8 x31),(.int .u32 x31v1),(.int .u8 x31v2),(.int .u8 x31v3),(.bool x31v4),(.int .u64 x31v5)])) w4 fun w5 =>
 RD PG (loadVar 152 a2) w5 fun v3 =>
 ∃ r : Int,∃ r1 : Int,∃ r2 : Int,∃ r3 : Int,∃ r4 : Bool,∃ r5 : Int,v3 = (.agg #[(.int .u8 r),(.int .u32 r1),(.int .u8 r2),(.int .u8 r3),(.bool r4),(.int .u64 r5)]) /\
 (Q (.tuple #[(.agg #[(.int .u8 r),(.int .u32 r1),(.int .u8 r2),(.int .u8 r3),(.bool r4),(.int .u64 r5)]),(.bool false)]) w5)))
 (RDI PG (loadVar 5 (a1.add 0)) .u8 w4 fun x18 =>
 IFB (decide (x18 > 7))
 (RD PG (Instr.build 152 #[]) w4 fun v4 =>
 ∃ x31v6 : Int,∃ x31v7 : Int,∃ x31v8 : Int,∃ x31v9 : Int,∃ x31v10 : Bool,∃ x31v11 : Int,v4 = (.agg #[(.int .u8 x31v6),(.int .u32 x31v7),(.int .u8 x31v8),(.int .u8 x31v9),(.bool x31v10),(.int .u64 x31v11)]) /\
 (RUNU PG (storeVar 152 a2 (.agg #[(.int .u8 x31v6),(.int .u32 x31v7),(.int .u8 x31v8),(.int .u8 x31v9),(.bool x31v10),(.int .u64 x31v11)])) w4 fun w6 =>
 RD PG (loadVar 152 a2) w6 fun v6 =>
 ∃ r6 : Int,∃ r7 : Int,∃ r8 : Int,∃ r9 : Int,∃ r10 : Bool,∃ r11 : Int,v6 = (.agg #[(.int .u8 r6),(.int .u32 r7),(.int .u8 r8),(.int .u8 r9),(.bool r10),(.int .u64 r11)]) /\
 (Q (.tuple #[(.agg #[(.int .u8 r6),(.int .u32 r7),(.int .u8 r8),(.int .u8 r9),(.bool r10),(.int .u64 r11)]),(.bool false)]) w6)))
 (IFB (!okv)
 (RD PG (Instr.build 152 #[]) w4 fun v7 =>
 ∃ x31v12 : Int,∃ x31v13 : Int,∃ x31v14 : Int,∃ x31v15 : Int,∃ x31v16 : Bool,∃ x31v17 : Int,v7 = (.agg #[(.int .u8 x31v12),(.int .u32 x31v13),(.int .u8 x31v14),(.int .u8 x31v15),(.bool x31v16),(.int .u64 x31v17)]) /\
 (RUNU PG (storeVar 152 a2 (.agg #[(.int .u8 x31v12),(.int .u32 x31v13),(.int .u8 x31v14),(.int .u8 x31v15),(.bool x31v16),(.int .u64 x31v17)])) w4 fun w7 =>
 RD PG (loadVar 152 a2) w7 fun v9 =>
 ∃ r12 : Int,∃ r13 : Int,∃ r14 : Int,∃ r15 : Int,∃ r16 : Bool,∃ r17 : Int,v9 = (.agg #[(.int .u8 r12),(.int .u32 r13),(.int .u8 r14),(.int .u8 r15),(.bool r16),(.int .u64 r17)]) /\
 (Q (.tuple #[(.agg #[(.int .u8 r12),(.int .u32 r13),(.int .u8 r14),(.int .u8 r15),(.bool r16),(.int .u64 r17)]),(.bool false)]) w7)))
 (IDX x10 x10N 3 fun a27 =>
 RDI PG (loadVar 25 (a27.add (Int.toNat 3 * 1))) .u64 w4 fun x28 =>
 IFB (decide (x28 > 1))
 (RD PG (Instr.build 152 #[]) w4 fun v10 =>
 ∃ x31v18 : Int,∃ x31v19 : Int,∃ x31v20 : Int,∃ x31v21 : Int,∃ x31v22 : Bool,∃ x31v23 : Int,v10 = (.agg #[(.int .u8 x31v18),(.int .u32 x31v19),(.int .u8 x31v20),(.int .u8 x31v21),(.bool x31v22),(.int .u64 x31v23)]) /\
 (RUNU PG (storeVar 152 a2 (.agg #[(.int .u8 x31v18),(.int .u32 x31v19),(.int .u8 x31v20),(.int .u8 x31v21),(.bool x31v22),(.int .u64 x31v23)])) w4 fun w8 =>
 RD PG (loadVar 152 a2) w8 fun v12 =>
 ∃ r18 : Int,∃ r19 : Int,∃ r20 : Int,∃ r21 : Int,∃ r22 : Bool,∃ r23 : Int,v12 = (.agg #[(.int .u8 r18),(.int .u32 r19),(.int .u8 r20),(.int .u8 r21),(.bool r22),(.int .u64 r23)]) /\
 (Q (.tuple #[(.agg #[(.int .u8 r18),(.int .u32 r19),(.int .u8 r20),(.int .u8 r21),(.bool r22),(.int .u64 r23)]),(.bool false)]) w8)))
 (RDI PG (loadVar 5 (a1.add 0)) .u8 (w4.drew) fun x33 =>
 IDX x10 x10N 0 fun a35 =>
 RDI PG (loadVar 25 (a35.add (Int.toNat 0 * 1))) .u64 (w4.drew) fun x36 =>
 IDX x10 x10N 1 fun a39 =>
 RDI PG (loadVar 25 (a39.add (Int.toNat 1 * 1))) .u64 (w4.drew) fun x40 =>
 IDX x10 x10N 2 fun a43 =>
 RDI PG (loadVar 25 (a43.add (Int.toNat 2 * 1))) .u64 (w4.drew) fun x44 =>
 IDX x10 x10N 3 fun a47 =>
 RDI PG (loadVar 25 (a47.add (Int.toNat 3 * 1))) .u64 (w4.drew) fun x48 =>
 IDX x10 x10N 4 fun a51 =>
 RDI PG (loadVar 25 (a51.add (Int.toNat 4 * 1))) .u64 (w4.drew) fun x52 =>
 RD PG (Instr.build 126 #[(0,(.int .u64 x52))]) (w4.drew) fun v13 =>
 ∃ x53 : Int,v13 = (.agg #[(.int .u64 x53)]) /\
 (RD PG (Instr.build 152 #[(0,(.int .u8 x33)),(1,(.int .u32 (IntKind.u32.wrap x36))),(2,(.int .u8 (IntKind.u8.wrap x40))),(3,(.int .u8 (IntKind.u8.wrap x44))),(4,(.bool (x48 == 1))),(5,(.agg #[(.int .u64 x53)]))]) (w4.drew) fun v14 =>
 ∃ x54 : Int,∃ x54v1 : Int,∃ x54v2 : Int,∃ x54v3 : Int,∃ x54v4 : Bool,∃ x54v5 : Int,v14 = (.agg #[(.int .u8 x54),(.int .u32 x54v1),(.int .u8 x54v2),(.int .u8 x54v3),(.bool x54v4),(.int .u64 x54v5)]) /\
 (RUNU PG (storeVar 152 a2 (.agg #[(.int .u8 x54),(.int .u32 x54v1),(.int .u8 x54v2),(.int .u8 x54v3),(.bool x54v4),(.int .u64 x54v5)])) (w4.drew) fun w9 =>
 RD PG (loadVar 152 a2) w9 fun v16 =>
 ∃ r24 : Int,∃ r25 : Int,∃ r26 : Int,∃ r27 : Int,∃ r28 : Bool,∃ r29 : Int,v16 = (.agg #[(.int .u8 r24),(.int .u32 r25),(.int .u8 r26),(.int .u8 r27),(.bool r28),(.int .u64 r29)]) /\
 (Q (.tuple #[(.agg #[(.int .u8 r24),(.int .u32 r25),(.int .u8 r26),(.int .u8 r27),(.bool r28),(.int .u64 r29)]),(.bool true)]) w9))))))))
theorem call219 {o : Int} {o1 : Option Addr} {oN oC : Nat} {w : World} {Q : QP} (h_ : N219 o o1 oN oC w Q) : CALL PG 219 [(.agg #[(.int .u8 o),(.slice o1 oN oC)])] w Q:=calls_vq .nil tabOk Tryz.func219 (by kernel_rfl) h_
end Go.Br
/- Sums of what came: the option of data,the options of word. -/
set_option linter.unusedVariables false
set_option linter.unusedSimpArgs false
set_option linter.unnecessarySimpa false
namespace Go.Br
open Go
instance biMacOpena : Bld PG (Instr.build 185 #[]) (.agg #[.bool false,.bool false,.int .u64 0,.int .u64 0,.int .u32 0,.int .u64 0]):=⟨fun w => by kernel_rfl⟩
instance biMacOpenb : Zro PG 122 2 32 (.agg #[.int .u8 0,.slice none 0 0]):=⟨tiOf (by kernel_rfl)⟩
instance biMacOpenc : Zro PG 185 6 40 (.agg #[.bool false,.bool false,.int .u64 0,.int .u64 0,.int .u32 0,.int .u64 0]):=⟨tiOf (by kernel_rfl)⟩
instance biMacOpend : Zro PG 152 6 24 (.agg #[.int .u8 0,.int .u32 0,.int .u8 0,.int .u8 0,.bool false,.int .u64 0]):=⟨tiOf (by kernel_rfl)⟩
instance biMacOpene : Bld PG (Instr.build 152 #[]) (.agg #[.int .u8 0,.int .u32 0,.int .u8 0,.int .u8 0,.bool false,.int .u64 0]):=⟨fun w => by kernel_rfl⟩
instance biMacOpenf (x0 : Int) : Bld PG (Instr.build 126 #[(0,.int .u64 x0)]) (.agg #[.int .u64 x0]):=⟨fun w => by kernel_rfl⟩
instance biMacOpeng (x0 : Int) (x1 : Int) (x2 : Int) (x3 : Int) (x4 : Bool) (x5 : Int) : Bld PG (Instr.build 152 #[(0,.int .u8 x0),(1,.int .u32 x1),(2,.int .u8 x2),(3,.int .u8 x3),(4,.bool x4),(5,.agg #[.int .u64 x5])]) (.agg #[.int .u8 x0,.int .u32 x1,.int .u8 x2,.int .u8 x3,.bool x4,.int .u64 x5]):=⟨fun w => by kernel_rfl⟩
attribute [local irreducible] Addr.add RD RDS RUN RUNU NILC LETB CALL CALLX CALLV
structure Wd where
 kind : Int
 number : Int
 id : Int
 path : Int
 backup : Bool
 tgTag : Int
def wdc (x : Wd) : List Value:=[.int .u8 x.kind,.int .u32 x.number,.int .u8 x.id,.int .u8 x.path,.bool x.backup,.int .u64 x.tgTag]
abbrev wdcv (x : Wd) : Value:=.agg #[.int .u8 x.kind,.int .u32 x.number,.int .u8 x.id,.int .u8 x.path,.bool x.backup,.int .u64 x.tgTag]
theorem wdc_flat1 (x : Wd) : Flat (wdc x):=by intro v hv; simp [wdc] at hv; rcases hv with rfl | rfl | rfl | rfl | rfl | rfl <;> rfl
theorem tiWord : TI PG 152 6 24 (.agg #[.int .u8 0,.int .u32 0,.int .u8 0,.int .u8 0,.bool false,.int .u64 0]):=tiOf (by kernel_rfl)
theorem huWords : PG.underlying 209 = some (.slice 152):=by kernel_rfl
def openS (k0 k1 : Int) (s : SgP) : Option Dt :=
 match s.os.filter (fun o => o.1 == 3) with
 | [o] => (match parseD o with
  | some d => if tagS k0 k1 s o = d.tgTag then some d else none
  | none => none)
 | _ => none
def CapOk (s : Sg) : Prop:=∀ o ∈ s.os,o.bodys.length <= o.bodyC
theorem filt_map (os : List Opx) : (os.map opl).filter (fun o => o.1 == 3) = (ofKind 3 os).map opl:=by
 unfold ofKind
 rw [List.filter_map]
 rfl
def wordD (k : Int) (bs : List UInt8) : Wd:=⟨k,(beN (bs.take 4) : Nat),(beN ((bs.drop 4).take 1) : Nat),(beN ((bs.drop 5).take 1) : Nat),beN ((bs.drop 6).take 1) == 1,(beN ((bs.drop 7).take 8) : Nat)⟩
def wd0 : Wd:=⟨0,0,0,0,false,0⟩
def parseW (o : Int × List UInt8) : Option Wd:=if (4 <= o.1 /\ o.1 <= 7) /\ o.2.length = 15 /\ beN ((o.2.drop 6).take 1) <= 1 then some (wordD o.1 o.2) else none
def wordOf (k0 k1 : Int) (s : SgP) (o : Int × List UInt8) : Option Wd:=match parseW o with
 | some x => if tagS k0 k1 s o = x.tgTag then some x else none
 | none => none
def wordsS (k0 k1 : Int) (s : SgP) : List Wd:=s.os.filterMap (wordOf k0 k1 s)
section
variable {c : Ctx} {w : World} {L R : List SA}
theorem open_ok (h : St c w L) {k0 k1 : Int} {s : Sg} (hs : SgIn L s) (ok : SgOk s.pl) (cap : CapOk s) {Q : Value -> World -> Prop}
    (hk : ∀ w',St c w' L -> Q (.tuple #[dtcv ((openS k0 k1 s.pl).getD dt0),.bool (openS k0 k1 s.pl).isSome]) w') : CALL PG 86 [.agg #[.int .u64 k0,.int .u64 k1],sgv s] w Q:=by
  have hol : s.os.length <= 1000:=by
    have:=ok.room
    have h2:=obs_two s.pl.os
    have : s.pl.os.length = s.os.length:=List.length_map _
    omega
  refine call86 ?_
  unfold N86
  refine h.box (vs:=[.int .u64 k0,.int .u64 k1]) fun q0 w' h => ?_
  refine h.box (vs:=sgc s) fun q1 w' h => ?_
  refine h.allocZ fun q2 w' h => ?_
  refine h.rdG (B:=q1) ?_
  (repeat apply exi)
  apply exr
  have no : openS k0 k1 s.pl = none -> ∀ {M w'},St c w' (M ++ blk q2 185 (dtc dt0) :: L) -> RD PG (Instr.build 185 #[]) w' fun v => ∃ (a b : Bool) (x y z t : Int),v = .agg #[.bool a,.bool b,.int .u64 x,.int .u64 y,.int .u32 z,.int .u64 t] /\ RUNU PG (storeVar 185 ⟨q2,0,none⟩ (.agg #[.bool a,.bool b,.int .u64 x,.int .u64 y,.int .u32 z,.int .u64 t])) w' fun w5 =>
      RD PG (loadVar 185 ⟨q2,0,none⟩) w5 fun v => ∃ (a b : Bool) (x y z t : Int),v = .agg #[.bool a,.bool b,.int .u64 x,.int .u64 y,.int .u32 z,.int .u64 t] /\ Q (.tuple #[.agg #[.bool a,.bool b,.int .u64 x,.int .u64 y,.int .u32 z,.int .u64 t],.bool false]) w5:=fun hn {M w'} h => by
    have h:=h.dropM
    refine RD.bld ?_
    (repeat apply exi)
    apply exr
    refine h.stG (B:=q2) fun w' h => ?_
    refine h.rdG (B:=q2) ?_
    (repeat apply exi)
    apply exr
    have:=hk _ h.drop
    rw [hn] at this
    exact this
  refine one_ok (s:=s) h hs.more.more.more hol (fun o w' ho h => ?_) (fun hno w' h => ?_)
  rotate_left
  · (repeat apply exi)
    apply exr
    refine h.allocZ fun q3 w' h => ?_
    refine h.stG (B:=q3) fun w' h => ?_
    refine letb rfl (ift rfl ?_)
    refine no ?_ (M:=[_,_,_]) (h.sub (show Sub _ ([blk q3 122 _,blk q1 118 _,blk q0 28 _] ++ blk q2 185 (dtc dt0) :: L) from (.cons .head (.cons (.tail .head) (.cons (.tail .head) (.cons .head ((Sub.same _))))))))
    unfold openS
    rw [show s.pl.os = s.os.map opl from rfl,filt_map]
    cases hc : ofKind 3 s.os with
    | nil => rfl
    | cons a l =>
      cases l with
      | nil => rw [hc] at hno; exact absurd rfl hno
      | cons b l => rfl
  have hom : o ∈ s.os:=by
    have : o ∈ ofKind 3 s.os:=by rw [ho]; exact List.mem_singleton.2 rfl
    exact (List.mem_filter.1 this).1
  have hop : openS k0 k1 s.pl = match parseD (opl o) with | some d => if tagS k0 k1 s.pl (opl o) = d.tgTag then some d else none | none => none:=by
    unfold openS
    rw [show s.pl.os = s.os.map opl from rfl,filt_map,ho]
    rfl
  have hok:=ok.opts (opl o) (List.mem_map.2 ⟨o,hom,rfl⟩)
  have hlen : o.bodys.length <= 255:=hok.2
  have hkind : 1 <= o.kind /\ o.kind < 256:=hok.1
  (repeat apply exi)
  apply exr
  refine h.allocZ fun q3 w' h => ?_
  refine h.stG (B:=q3) (fun w' h => ?_) (hl:=by rfl)
  refine letb rfl (iff_ rfl ?_)
  refine h.rdG (B:=q3) ?_
  (repeat apply exi)
  apply exr
  have hbo:=(hs.opt hom).more (X:=blk q0 28 [.int .u64 k0,.int .u64 k1]) |>.more (X:=blk q1 118 (sgc s)) |>.more (X:=blk q2 185 (dtc dt0)) |>.more (X:=blk q3 122 (opx o))
  refine pdata_ok h hbo (cap o hom) (by omega) (fun hn w' h => ?_) fun d hd w' h => ?_
  · (repeat apply exi)
    apply exr
    refine h.allocZ fun q4 w' h => ?_
    refine h.stG (B:=q4) fun w' h => ?_
    refine letb rfl (ift rfl ?_)
    refine no (by rw [hop,hn]) (M:=[_,_,_,_]) (h.sub (show Sub _ ([blk q4 185 _,blk q3 122 _,blk q1 118 _,blk q0 28 _] ++ blk q2 185 (dtc dt0) :: L) from (.cons .head (.cons .head (.cons (.tail .head) (.cons (.tail .head) (.cons .head ((Sub.same _)))))))))
  · (repeat apply exi)
    apply exr
    refine h.allocZ fun q4 w' h => ?_
    refine h.stG (B:=q4) (fun w' h => ?_) (hl:=by rfl)
    refine letb rfl (iff_ rfl ?_)
    refine h.rdG (B:=q0) ?_
    (repeat apply exi)
    apply exr
    refine h.rdG (B:=q1) ?_
    (repeat apply exi)
    apply exr
    refine h.rdG (B:=q3) ?_
    (repeat apply exi)
    apply exr
    refine h.rdI2 (B:=q4) 5 0 ?_
    refine right_ok2 (s:=s) h hs.more.more.more.more.more ok hbo.more (cap o hom) ⟨by omega,hkind.2⟩ hlen fun w' h => ?_
    (repeat apply exi)
    apply exr
    refine ifnot (fun ht => ?_) fun ht => ?_
    · refine no ?_ (M:=[_,_,_,_]) (h.sub (show Sub _ ([blk q4 185 _,blk q3 122 _,blk q1 118 _,blk q0 28 _] ++ blk q2 185 (dtc dt0) :: L) from (.cons .head (.cons .head (.cons (.tail .head) (.cons (.tail .head) (.cons .head ((Sub.same _)))))))))
      rw [hop,hd]
      exact if_neg fun e => by
        have e2 : (tagS k0 k1 s.pl (opl o) == d.tgTag) = true:=by rw [e]; simp
        rw [show (tagS k0 k1 s.pl (opl o) == d.tgTag) = false from ht] at e2
        cases e2
    · refine h.rdG (B:=q4) ?_
      (repeat apply exi)
      apply exr
      refine h.stG (B:=q2) (fun w' h => ?_) (hl:=by rfl)
      refine h.rdG (B:=q2) ?_
      (repeat apply exi)
      apply exr
      have e : openS k0 k1 s.pl = some d:=by
        rw [hop,hd]
        exact if_pos (by simpa using ht)
      have:=hk _ (h.sub ((Sub.same _).more.more.more.more.more))
      rw [e] at this
      exact this
theorem pword_ok (h : St c w L) {o : Opx} (hr : RdIn L o.body (bvs o.bodys)) (hC : o.bodys.length <= o.bodyC) (hb : o.bodys.length <= 1000000) {Q : Value -> World -> Prop}
  (hno : parseW (opl o) = none -> ∀ w',St c w' L -> Q (.tuple #[wdcv wd0,.bool false]) w') (hyes : ∀ x,parseW (opl o) = some x -> ∀ w',St c w' L -> Q (.tuple #[wdcv x,.bool true]) w') : CALL PG 219 [opxv o] w Q:=by
 refine call219 ?_
 unfold N219
 refine h.box (vs:=opx o) fun q1 w' h => ?_
 refine h.allocZ fun q2 w' h => ?_
 refine h.rdL (B:=q1) 1 ?_
 refine h.lit (n:=5) 3 1 (([4,1,1,1,8] : List Nat).flatMap nv) fun q3 w' h => ?_
 have hg : gotS [4,1,1,1,8] o.bodys = if o.bodys.length = 15 then some (cutsN [4,1,1,1,8] o.bodys) else none:=gotS_gen (by simp)
 have no : parseW (opl o) = none -> ∀ {M w'},St c w' (M ++ blk q2 152 (wdc wd0) :: L) -> RD PG (Instr.build 152 #[]) w' fun v => ∃ (a b x y : Int) (z : Bool) (t : Int),v = .agg #[.int .u8 a,.int .u32 b,.int .u8 x,.int .u8 y,.bool z,.int .u64 t] /\ RUNU PG (storeVar 152 ⟨q2,0,none⟩ (.agg #[.int .u8 a,.int .u32 b,.int .u8 x,.int .u8 y,.bool z,.int .u64 t])) w' fun w5 =>
   RD PG (loadVar 152 ⟨q2,0,none⟩) w5 fun v => ∃ (a b x y : Int) (z : Bool) (t : Int),v = .agg #[.int .u8 a,.int .u32 b,.int .u8 x,.int .u8 y,.bool z,.int .u64 t] /\ Q (.tuple #[.agg #[.int .u8 a,.int .u32 b,.int .u8 x,.int .u8 y,.bool z,.int .u64 t],.bool false]) w5:=fun hn {M w'} h => by
  have h:=h.dropM
  refine RD.bld ?_
  (repeat apply exi)
  apply exr
  refine h.stG (B:=q2) fun w' h => ?_
  refine h.rdG (B:=q2) ?_
  (repeat apply exi)
  apply exr
  exact hno hn _ h.drop
 refine all_ok h (Sz:=[4,1,1,1,8]) hr.more.more.more rfl hC hb (RdIn.own .head) rfl (by decide) (by simp) (fun e w' h => ?_) fun l e w' O d1 h => ?_
 ·have hl : o.bodys.length ≠ 15:=fun hl => by rw [hg,if_pos hl] at e; cases e
  have hn : parseW (opl o) = none:=if_neg fun hc => hl hc.2.1
  (repeat apply exi)
  apply exr
  refine letb rfl (h.rdI (B:=q1) 0 ?_)
  have h2 : St c w' ([own 3 1 (some ⟨q3,0,none⟩) 5 5 (([4,1,1,1,8] : List Nat).flatMap nv),blk q1 122 (opx o)] ++ blk q2 152 (wdc wd0) :: L):=h.sub (.cons .head (.cons (.tail .head) (.cons .head ((Sub.same _)))))
  refine ifd (fun _ => no hn h2) fun _ => ?_
  refine h.rdI (B:=q1) 0 ?_
  refine ifd (fun _ => no hn h2) fun _ => ?_
  exact ift rfl (no hn h2)
 ·rw [hg] at e
  split at e
  rotate_left
  ·cases e
  rename_i hl
  obtain rfl : cutsN [4,1,1,1,8] o.bodys = l:=Option.some.inj e
  have el : cutsN [4,1,1,1,8] o.bodys = ([beN (o.bodys.take 4),beN ((o.bodys.drop 4).take 1),beN ((o.bodys.drop 5).take 1),beN ((o.bodys.drop 6).take 1),beN ((o.bodys.drop 7).take 8)] : List Nat):=by simp [cutsN,List.drop_drop]
  rw [el] at h ⊢
  (repeat apply exi)
  apply exr
  refine letb rfl (h.rdI (B:=q1) 0 ?_)
  have h2 : St c w' ([own 25 1 O 5 d1 (([beN (o.bodys.take 4),beN ((o.bodys.drop 4).take 1),beN ((o.bodys.drop 5).take 1),beN ((o.bodys.drop 6).take 1),beN ((o.bodys.drop 7).take 8)] : List Nat).flatMap uv),own 3 1 (some ⟨q3,0,none⟩) 5 5 (([4,1,1,1,8] : List Nat).flatMap nv),blk q1 122 (opx o)] ++ blk q2 152 (wdc wd0) :: L):=h.sub (.cons .head (.cons .head (.cons (.tail .head) (.cons .head ((Sub.same _))))))
  refine ifd (fun hk => no (if_neg fun hc => ?_) h2) fun hk => ?_
  ·have : 4 <= o.kind:=hc.1.1
   omega
  refine h.rdI (B:=q1) 0 ?_
  refine ifd (fun hk7 => no (if_neg fun hc => ?_) h2) fun hk7 => iff_ rfl ?_
  ·have : o.kind <= 7:=hc.1.2
   omega
  have rd : ∀ {A},A = O -> RdIn (own 25 1 O 5 d1 (([beN (o.bodys.take 4),beN ((o.bodys.drop 4).take 1),beN ((o.bodys.drop 5).take 1),beN ((o.bodys.drop 6).take 1),beN ((o.bodys.drop 7).take 8)] : List Nat).flatMap uv) :: own 3 1 (some ⟨q3,0,none⟩) 5 5 (([4,1,1,1,8] : List Nat).flatMap nv) :: blk q2 152 (wdc wd0) :: blk q1 122 (opx o) :: L) A (([beN (o.bodys.take 4),beN ((o.bodys.drop 4).take 1),beN ((o.bodys.drop 5).take 1),beN ((o.bodys.drop 6).take 1),beN ((o.bodys.drop 7).take 8)] : List Nat).flatMap uv):=fun e => by subst e; exact RdIn.own .head
  refine h.ix (z:=0) (i:=3) (rd rfl) rfl (fun a ha => ?_) (by show 3 < 5; decide)
  subst ha
  refine h.rdWI (i:=3) (rd rfl) rfl ?_
  refine ifd (fun hb3 => no (if_neg fun hc => ?_) h2) fun hb3 => ?_
  ·have : beN ((o.bodys.drop 6).take 1) <= 1:=hc.2.2
   omega
  have hd : parseW (opl o) = some (wordD o.kind o.bodys):=if_pos ⟨⟨by show 4 <= o.kind; omega,by show o.kind <= 7; omega⟩,hl,by show beN ((o.bodys.drop 6).take 1) <= 1; omega⟩
  have h:=h.drew
  refine h.rdI (B:=q1) 0 ?_
  refine h.ix (z:=0) (i:=0) (rd rfl) rfl (fun a ha => ?_) (by show 0 < 5; decide)
  injection ha with ha
  subst ha
  refine h.rdWI (i:=0) (rd rfl) rfl ?_
  refine h.ix (z:=0) (i:=1) (rd rfl) rfl (fun a ha => ?_) (by show 1 < 5; decide)
  injection ha with ha
  subst ha
  refine h.rdWI (i:=1) (rd rfl) rfl ?_
  refine h.ix (z:=0) (i:=2) (rd rfl) rfl (fun a ha => ?_) (by show 2 < 5; decide)
  injection ha with ha
  subst ha
  refine h.rdWI (i:=2) (rd rfl) rfl ?_
  refine h.ix (z:=0) (i:=3) (rd rfl) rfl (fun a ha => ?_) (by show 3 < 5; decide)
  injection ha with ha
  subst ha
  refine h.rdWI (i:=3) (rd rfl) rfl ?_
  refine h.ix (z:=0) (i:=4) (rd rfl) rfl (fun a ha => ?_) (by show 4 < 5; decide)
  injection ha with ha
  subst ha
  refine h.rdWI (i:=4) (rd rfl) rfl ?_
  have hlt (l : List UInt8) (k : Nat) : beN (l.take k) < 256 ^ k:=Nat.lt_of_lt_of_le (beN_lt _) (Nat.pow_le_pow_right (by decide) (by rw [List.length_take]; omega))
  have b0:=hlt o.bodys 4
  have b1:=hlt (o.bodys.drop 4) 1
  have b2:=hlt (o.bodys.drop 5) 1
  rw [show IntKind.u32.wrap (beN (o.bodys.take 4) : Int) = (beN (o.bodys.take 4) : Int) by rw [wrapU32]; omega,show IntKind.u8.wrap (beN ((o.bodys.drop 4).take 1) : Int) = (beN ((o.bodys.drop 4).take 1) : Int) by rw [wrapU8]; omega,
   show IntKind.u8.wrap (beN ((o.bodys.drop 5).take 1) : Int) = (beN ((o.bodys.drop 5).take 1) : Int) by rw [wrapU8]; omega]
  refine RD.bld ?_
  (repeat apply exi)
  apply exr
  refine RD.bld ?_
  (repeat apply exi)
  apply exr
  refine h.stG (B:=q2) fun w' h => ?_
  refine h.rdG (B:=q2) ?_
  (repeat apply exi)
  apply exr
  have hz : ((beN ((o.bodys.drop 6).take 1) : Int) == 1) = (beN ((o.bodys.drop 6).take 1) == 1):=by
   rw [Bool.eq_iff_iff]; simp; omega
  have:=hyes _ hd _ (h.sub ((Sub.same _).more.more.more.more))
  rw [hz]
  exact this
theorem words_ok (h : St c w L) {k0 k1 : Int} {s : Sg} (hs : SgIn L s) (ok : SgOk s.pl) (cap : CapOk s) {Q : Value -> World -> Prop}
    (hk : ∀ O d w',St c w' (own 152 6 O (wordsS k0 k1 s.pl).length d ((wordsS k0 k1 s.pl).flatMap wdc) :: L) -> Q (.slice O (wordsS k0 k1 s.pl).length d) w') : CALL PG 191 [.agg #[.int .u64 k0,.int .u64 k1],sgv s] w Q:=by
  have hol : s.os.length <= 1000:=by
    have:=ok.room
    have h2:=obs_two s.pl.os
    have : s.pl.os.length = s.os.length:=List.length_map _
    omega
  refine call191 ?_
  unfold N191
  refine h.box (vs:=[.int .u64 k0,.int .u64 k1]) fun q0 w' h => ?_
  refine h.box (vs:=sgc s) fun q1 w' h => ?_
  refine h.rdL (B:=q1) 5 ?_
  have h:=h.addOwnNil 152 6
  refine ⟨fun m o oN oC x w => ∃ j : Nat,x = j /\ m = s.os.length - j /\ j <= s.os.length /\ oN = (((s.os.take j).map opl).filterMap (wordOf k0 k1 s.pl)).length /\ St c w (own 152 6 o oN oC ((((s.os.take j).map opl).filterMap (wordOf k0 k1 s.pl)).flatMap wdc) :: blk q1 118 (sgc s) :: blk q0 28 [.int .u64 k0,.int .u64 k1] :: L),⟨_,0,rfl,rfl,Nat.zero_le _,rfl,h⟩,?_⟩
  clear h
  rintro m o oN oC x w' ⟨j,rfl,rfl,hj,rfl,h⟩
  have hlen : (((s.os.take j).map opl).filterMap (wordOf k0 k1 s.pl)).length <= 1000:=by
    refine Nat.le_trans (List.length_filterMap_le _ _) ?_
    rw [List.length_map,List.length_take]
    omega
  by_cases hlt : j < s.os.length
  rotate_left
  · refine ifdf (by omega) ?_
    rw [List.take_of_length_le (by omega)] at h ⊢
    exact hk _ _ _ (h.sub (.cons .head ((Sub.same _).more.more)))
  refine ifdt (by omega) ?_
  obtain ⟨y,hy⟩ : ∃ y,s.os[j]? = some y:=⟨_,List.getElem?_eq_getElem hlt⟩
  have hom : y ∈ s.os:=List.mem_of_getElem? hy
  have hok:=ok.opts (opl y) (List.mem_map.2 ⟨y,hom,rfl⟩)
  have hyl : y.bodys.length <= 255:=hok.2
  have hkind : 1 <= y.kind /\ y.kind < 256:=hok.1
  have hso:=hs.opts.more (X:=blk q0 28 [.int .u64 k0,.int .u64 k1]) |>.more (X:=blk q1 118 (sgc s))
  have hse : ((s.os.take (j + 1)).map opl).filterMap (wordOf k0 k1 s.pl) = ((s.os.take j).map opl).filterMap (wordOf k0 k1 s.pl) ++ ([opl y].filterMap (wordOf k0 k1 s.pl)):=by
    rw [take_snoc' hy,List.map_append,List.filterMap_append]
    rfl
  refine h.ix (z:=1) (i:=j) hso.more hy (fun a ha => ?_) hlt
  rw [ha] at hso
  refine h.rdEG (i:=j) hso.more hy ?_
  (repeat apply exi)
  apply exr
  refine h.allocZ fun q2 w' h => ?_
  refine h.stG (B:=q2) (fun w' h => ?_) (hl:=by rfl)
  refine h.rdG (B:=q2) ?_
  (repeat apply exi)
  apply exr
  have hbo:=(hs.opt hom).more (X:=blk q0 28 [.int .u64 k0,.int .u64 k1]) |>.more (X:=blk q1 118 (sgc s)) |>.more (X:=own 152 6 o (((s.os.take j).map opl).filterMap (wordOf k0 k1 s.pl)).length oC ((((s.os.take j).map opl).filterMap (wordOf k0 k1 s.pl)).flatMap wdc)) |>.more (X:=blk q2 122 (opx y))
  have nx : wordOf k0 k1 s.pl (opl y) = none -> ∀ {M w'},St c w' (M ++ own 152 6 o (((s.os.take j).map opl).filterMap (wordOf k0 k1 s.pl)).length oC ((((s.os.take j).map opl).filterMap (wordOf k0 k1 s.pl)).flatMap wdc) :: blk q1 118 (sgc s) :: blk q0 28 [.int .u64 k0,.int .u64 k1] :: L) ->
      ∃ m2,m2 < s.os.length - j /\ ∃ j2 : Nat,IntKind.i64.wrap ((j : Int) + 1) = j2 /\ m2 = s.os.length - j2 /\ j2 <= s.os.length /\ (((s.os.take j).map opl).filterMap (wordOf k0 k1 s.pl)).length = (((s.os.take j2).map opl).filterMap (wordOf k0 k1 s.pl)).length /\ St c w' (own 152 6 o (((s.os.take j).map opl).filterMap (wordOf k0 k1 s.pl)).length oC ((((s.os.take j2).map opl).filterMap (wordOf k0 k1 s.pl)).flatMap wdc) :: blk q1 118 (sgc s) :: blk q0 28 [.int .u64 k0,.int .u64 k1] :: L):=fun hn {M w'} h => by
    have h:=h.dropM
    have e2 : ((s.os.take (j + 1)).map opl).filterMap (wordOf k0 k1 s.pl) = ((s.os.take j).map opl).filterMap (wordOf k0 k1 s.pl):=by
      rw [hse,List.filterMap_cons,hn]
      simp
    exact ⟨_,by omega,j + 1,by rw [wrap_i64 (by omega) (by omega)]; omega,rfl,by omega,by rw [e2],by rw [e2]; exact h⟩
  refine pword_ok h hbo (cap y hom) (by omega) (fun hn w' h => ?_) fun x hx w' h => ?_
  · (repeat apply exi)
    apply exr
    refine h.allocZ fun q3 w' h => ?_
    refine h.stG (B:=q3) fun w' h => ?_
    refine letb rfl (iff_ rfl ?_)
    exact nx (by unfold wordOf; rw [hn]) (M:=[_,_]) h
  · (repeat apply exi)
    apply exr
    refine h.allocZ fun q3 w' h => ?_
    refine h.stG (B:=q3) (fun w' h => ?_) (hl:=by rfl)
    refine letb rfl (ift rfl ?_)
    refine h.rdG (B:=q0) ?_
    (repeat apply exi)
    apply exr
    refine h.rdG (B:=q1) ?_
    (repeat apply exi)
    apply exr
    refine h.rdG (B:=q2) ?_
    (repeat apply exi)
    apply exr
    refine h.rdI2 (B:=q3) 5 0 ?_
    refine right_ok2 (s:=s) h hs.more.more.more.more.more ok hbo.more (cap y hom) ⟨by omega,hkind.2⟩ hyl fun w' h => ?_
    (repeat apply exi)
    apply exr
    refine ifb (fun ht => ?_) fun ht => ?_
    · refine h.rdG (B:=q3) ?_
      (repeat apply exi)
      apply exr
      refine h.app1 huWords tiWord (wdc x) (.tail (.tail .head)) (wdc_flat1 x) (by omega) fun O d w' h => ?_
      have e1 : wordOf k0 k1 s.pl (opl y) = some x:=by
        unfold wordOf
        rw [hx]
        exact if_pos (by simpa using ht)
      have e2 : ((s.os.take (j + 1)).map opl).filterMap (wordOf k0 k1 s.pl) = ((s.os.take j).map opl).filterMap (wordOf k0 k1 s.pl) ++ [x]:=by
        rw [hse,List.filterMap_cons,e1]
        simp
      refine ⟨_,by omega,j + 1,by rw [wrap_i64 (by omega) (by omega)]; omega,rfl,by omega,by rw [e2,List.length_append]; rfl,?_⟩
      rw [e2,List.flatMap_append,List.flatMap_cons,List.flatMap_nil,List.append_nil]
      exact h.sub (.cons .head (.cons (.tail (.tail .head)) (.cons (.tail (.tail .head)) ((Sub.same _).more.more))))
    · refine nx ?_ (M:=[_,_]) h
      unfold wordOf
      rw [hx]
      exact if_neg fun e => by
        have e2 : (tagS k0 k1 s.pl (opl y) == x.tgTag) = true:=by rw [e]; simp
        rw [show (tagS k0 k1 s.pl (opl y) == x.tgTag) = false from ht] at e2
        cases e2
end
end Go.Br
