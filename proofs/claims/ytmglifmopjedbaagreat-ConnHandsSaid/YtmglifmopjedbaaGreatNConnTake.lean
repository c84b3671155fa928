/- What the code of some functions says, as the core reads it; each reading is checked by the kernel. -/
import Derived.Test.YtmglifmopjedbaaGreatBrSeat
set_option linter.unusedVariables false
set_option maxRecDepth 100000
namespace Go.Br
open Go Go.Proofs
def N46 (x : Option Addr) (f : Option Addr) (s : Int) (s1 : Int) (s2 : Int) (s3 : Int) (s4 : Int) (s5 : Option Addr) (sN sC : Nat) (s6 : Option Addr) (sN1 sC1 : Nat) (w : World) (Q : QP) : Prop :=
 RUNA PG (Instr.box 118 (.agg #[(.int .u16 s),(.int .u16 s1),(.int .u32 s2),(.int .u32 s3),(.int .u8 s4),(.slice s5 sN sC),(.slice s6 sN1 sC1)])) w fun a5 w1 =>
 RD PG (Instr.build 185 #[]) w1 fun v =>
 ∃ x11 : Bool,∃ x11v1 : Bool,∃ x11v2 : Int,∃ x11v3 : Int,∃ x11v4 : Int,∃ x11v5 : Int,v = (.agg #[(.bool x11),(.bool x11v1),(.int .u64 x11v2),(.int .u64 x11v3),(.int .u32 x11v4),(.int .u64 x11v5)]) /\
 (RUNA PG (Instr.alloc 185 true (.tuple #[])) w1 fun a7 w2 =>
 RUNU PG (storeVar 185 a7 (.agg #[(.bool x11),(.bool x11v1),(.int .u64 x11v2),(.int .u64 x11v3),(.int .u32 x11v4),(.int .u64 x11v5)])) w2 fun w3 =>
 ∃ R : Bool -> World -> Prop,
 (NILC x fun a13 =>
 RDB PG (loadVar 4 (a13.add 29)) w3 fun x15 =>
 IFB x15
 (∃ S : World -> Prop,S (w3.drew) /\
 (RDS PG (loadVar 118 a5) S fun v1 =>
 ∃ x20 : Int,∃ x20v1 : Int,∃ x20v2 : Int,∃ x20v3 : Int,∃ x20v4 : Int,∃ (x20v5 : Option Addr) (x20N x20C : Nat),∃ (x20v6 : Option Addr) (x20N1 x20C1 : Nat),v1 = (.agg #[(.int .u16 x20),(.int .u16 x20v1),(.int .u32 x20v2),(.int .u32 x20v3),(.int .u8 x20v4),(.slice x20v5 x20N x20C),(.slice x20v6 x20N1 x20C1)]) /\
 (CALL PG 87 [(.pointer x),(.pointer f)] (w3.drew) fun v2 w4 =>
 ∃ x19 : Int,∃ x19v1 : Int,v2 = (.agg #[(.int .u64 x19),(.int .u64 x19v1)]) /\
 (∃ S1 : World -> Prop,(∀ x,S1 x -> S x) /\ S1 w4 /\
 (CALL PG 86 [(.agg #[(.int .u64 x19),(.int .u64 x19v1)]),(.agg #[(.int .u16 x20),(.int .u16 x20v1),(.int .u32 x20v2),(.int .u32 x20v3),(.int .u8 x20v4),(.slice x20v5 x20N x20C),(.slice x20v6 x20N1 x20C1)])] w4 fun v3 w5 =>
 ∃ x21 : Bool,∃ x21v1 : Bool,∃ x21v2 : Int,∃ x21v3 : Int,∃ x21v4 : Int,∃ x21v5 : Int,∃ x21v6 : Bool,v3 = (.tuple #[(.agg #[(.bool x21),(.bool x21v1),(.int .u64 x21v2),(.int .u64 x21v3),(.int .u32 x21v4),(.int .u64 x21v5)]),(.bool x21v6)]) /\
 (∃ S2 : World -> Prop,S2 w5 /\
 (RUNU PG (storeVar 185 a7 (.agg #[(.bool x21),(.bool x21v1),(.int .u64 x21v2),(.int .u64 x21v3),(.int .u32 x21v4),(.int .u64 x21v5)])) w5 fun w6 =>
 ∃ S3 : World -> Prop,(∀ x,S3 x -> S2 x) /\ S3 w6 /\
 (LETB x21v6 fun sealed =>
 R sealed w6))))))))
 (R false w3)) /\
 (∀ (sealed1 : Bool) (w7 : World),R sealed1 w7 -> (NILC f fun a25 =>
 RD PG (loadVar 104 (a25.add 0)) (w7.drew) fun v4 =>
 ∃ x27 : Int,∃ x27v1 : Int,∃ x27v2 : Int,∃ x27v3 : Int,∃ x27v4 : Int,v4 = (.agg #[(.int .i64 x27),(.int .u32 x27v1),(.int .u32 x27v2),(.int .u32 x27v3),(.int .u32 x27v4)]) /\
 (RD PG (loadVar 118 a5) (w7.drew) fun v5 =>
 ∃ x28 : Int,∃ x28v1 : Int,∃ x28v2 : Int,∃ x28v3 : Int,∃ x28v4 : Int,∃ (x28v5 : Option Addr) (x28N x28C : Nat),∃ (x28v6 : Option Addr) (x28N1 x28C1 : Nat),v5 = (.agg #[(.int .u16 x28),(.int .u16 x28v1),(.int .u32 x28v2),(.int .u32 x28v3),(.int .u8 x28v4),(.slice x28v5 x28N x28C),(.slice x28v6 x28N1 x28C1)]) /\
 (CALL PG 88 [(.agg #[(.int .i64 x27),(.int .u32 x27v1),(.int .u32 x27v2),(.int .u32 x27v3),(.int .u32 x27v4)]),(.agg #[(.int .u16 x28),(.int .u16 x28v1),(.int .u32 x28v2),(.int .u32 x28v3),(.int .u8 x28v4),(.slice x28v5 x28N x28C),(.slice x28v6 x28N1 x28C1)]),(.bool sealed1)] (w7.drew) fun v6 w8 =>
 ∃ x30 : Int,v6 = (.int .i64 x30) /\
 (LETB (x30 == 4) fun x31 =>
 IFB x31
 (CALL PG 89 [(.pointer x),(.pointer f)] w8 fun v7 w9 =>
 v7 = (.tuple #[]) /\
 (Q (.int .i64 6) w9))
 (LETB (x30 == 3) fun x36 =>
 IFB x36
 (NILC f fun a39 =>
 RDP PG (loadVar 108 (a39.add 18)) w8 fun x41 =>
 CALL PG 90 [(.pointer x41),(.int .i64 1)] w8 fun v8 w10 =>
 v8 = (.tuple #[]) /\
 (NILC f fun a44 =>
 RDP PG (loadVar 109 (a44.add 19)) w10 fun x46 =>
 CALL PG 91 [(.pointer x46)] w10 fun v9 w11 =>
 ∃ x47 : Bool,v9 = (.bool x47) /\
 (IFB (!x47)
 (Q (.int .i64 5) w11)
 (CALL PG 92 [(.pointer x),(.pointer f),(.bool false),(.slice none 0 0)] w11 fun v10 w12 =>
 v10 = (.tuple #[]) /\
 (Q (.int .i64 4) w12)))))
 (LETB (x30 == 5) fun x52 =>
 IFB x52
 (NILC f fun a55 =>
 RDP PG (loadVar 109 (a55.add 19)) w8 fun x57 =>
 CALL PG 91 [(.pointer x57)] w8 fun v11 w13 =>
 ∃ x58 : Bool,v11 = (.bool x58) /\
 (IFB (!x58)
 (Q (.int .i64 5) w13)
 (RDI PG (loadVar 26 (a5.add 3)) .u32 w13 fun x64 =>
 CALL PG 93 [(.pointer f),(.int .u32 x64)] w13 fun v12 w14 =>
 ∃ x65 : Int,∃ x65v1 : Int,∃ x65v2 : Int,∃ x65v3 : Int,∃ x65v4 : Int,∃ (x65v5 : Option Addr) (x65N x65C : Nat),∃ (x65v6 : Option Addr) (x65N1 x65C1 : Nat),v12 = (.agg #[(.int .u16 x65),(.int .u16 x65v1),(.int .u32 x65v2),(.int .u32 x65v3),(.int .u8 x65v4),(.slice x65v5 x65N x65C),(.slice x65v6 x65N1 x65C1)]) /\
 (CALL PG 78 [(.pointer x),(.pointer f),(.agg #[(.int .u16 x65),(.int .u16 x65v1),(.int .u32 x65v2),(.int .u32 x65v3),(.int .u8 x65v4),(.slice x65v5 x65N x65C),(.slice x65v6 x65N1 x65C1)])] w14 fun v13 w15 =>
 v13 = (.tuple #[]) /\
 (Q (.int .i64 4) w15)))))
 (LETB (x30 == 1) fun x67 =>
 IFB x67
 (RD PG (loadVar 118 a5) w8 fun v14 =>
 ∃ x71 : Int,∃ x71v1 : Int,∃ x71v2 : Int,∃ x71v3 : Int,∃ x71v4 : Int,∃ (x71v5 : Option Addr) (x71N x71C : Nat),∃ (x71v6 : Option Addr) (x71N1 x71C1 : Nat),v14 = (.agg #[(.int .u16 x71),(.int .u16 x71v1),(.int .u32 x71v2),(.int .u32 x71v3),(.int .u8 x71v4),(.slice x71v5 x71N x71C),(.slice x71v6 x71N1 x71C1)]) /\
 (RD PG (loadVar 185 a7) w8 fun v15 =>
 ∃ x72 : Bool,∃ x72v1 : Bool,∃ x72v2 : Int,∃ x72v3 : Int,∃ x72v4 : Int,∃ x72v5 : Int,v15 = (.agg #[(.bool x72),(.bool x72v1),(.int .u64 x72v2),(.int .u64 x72v3),(.int .u32 x72v4),(.int .u64 x72v5)]) /\
 (CALL PG 94 [(.pointer x),(.pointer f),(.agg #[(.int .u16 x71),(.int .u16 x71v1),(.int .u32 x71v2),(.int .u32 x71v3),(.int .u8 x71v4),(.slice x71v5 x71N x71C),(.slice x71v6 x71N1 x71C1)]),(.agg #[(.bool x72),(.bool x72v1),(.int .u64 x72v2),(.int .u64 x72v3),(.int .u32 x72v4),(.int .u64 x72v5)])] w8 fun v16 w16 =>
 ∃ x73 : Int,v16 = (.int .i64 x73) /\
 (LETI x73 fun x6 =>
 Q (.int .i64 x6) w16))))
 (RD PG (loadVar 118 a5) w8 fun v17 =>
 ∃ x75 : Int,∃ x75v1 : Int,∃ x75v2 : Int,∃ x75v3 : Int,∃ x75v4 : Int,∃ (x75v5 : Option Addr) (x75N x75C : Nat),∃ (x75v6 : Option Addr) (x75N1 x75C1 : Nat),v17 = (.agg #[(.int .u16 x75),(.int .u16 x75v1),(.int .u32 x75v2),(.int .u32 x75v3),(.int .u8 x75v4),(.slice x75v5 x75N x75C),(.slice x75v6 x75N1 x75C1)]) /\
 (CALL PG 95 [(.agg #[(.int .u16 x75),(.int .u16 x75v1),(.int .u32 x75v2),(.int .u32 x75v3),(.int .u8 x75v4),(.slice x75v5 x75N x75C),(.slice x75v6 x75N1 x75C1)]),(.int .u8 3)] w8 fun v18 w17 =>
 ∃ x76 : Int,∃ (x76v1 : Option Addr) (x76N x76C : Nat),∃ x76v2 : Bool,v18 = (.tuple #[(.agg #[(.int .u8 x76),(.slice x76v1 x76N x76C)]),(.bool x76v2)]) /\
 (RUNA PG (Instr.alloc 122 true (.tuple #[])) w17 fun a9 w18 =>
 RUNU PG (storeVar 122 a9 (.agg #[(.int .u8 x76),(.slice x76v1 x76N x76C)])) w18 fun w19 =>
 LETB x76v2 fun has =>
 IFB has
 (IFB (!sealed1)
 (NILC f fun a85 =>
 RDP PG (loadVar 108 (a85.add 18)) w19 fun x87 =>
 CALL PG 90 [(.pointer x87),(.int .i64 4)] w19 fun v19 w20 =>
 v19 = (.tuple #[]) /\
 (Q (.int .i64 2) w20))
 (NILC f fun a90 =>
 RDP PG (loadVar 108 (a90.add 18)) w19 fun x92 =>
 CALL PG 90 [(.pointer x92),(.int .i64 1)] w19 fun v20 w21 =>
 v20 = (.tuple #[]) /\
 (Q (.int .i64 3) w21)))
 (NILC f fun a90v1 =>
 RDP PG (loadVar 108 (a90v1.add 18)) w19 fun x92v1 =>
 CALL PG 90 [(.pointer x92v1),(.int .i64 1)] w19 fun v21 w22 =>
 v21 = (.tuple #[]) /\
 (Q (.int .i64 3) w22))))))))))))))
theorem call46 {x : Option Addr} {f : Option Addr} {s : Int} {s1 : Int} {s2 : Int} {s3 : Int} {s4 : Int} {s5 : Option Addr} {sN sC : Nat} {s6 : Option Addr} {sN1 sC1 : Nat} {w : World} {Q : QP} (h_ : N46 x f s s1 s2 s3 s4 s5 sN sC s6 sN1 sC1 w Q) : CALL PG 46 [(.pointer x),(.pointer f),(.agg #[(.int .u16 s),(.int .u16 s1),(.int .u32 s2),(.int .u32 s3),(.int .u8 s4),(.slice s5 sN sC),(.slice s6 sN1 sC1)])] w Q:=calls_vq (.s .nil (.s .nil (.cut [(8,4)] .nil .nil))) tabOk Tryz.func46 (by kernel_rfl) h_
def N94 (x : Option Addr) (f : Option Addr) (s : Int) (s1 : Int) (s2 : Int) (s3 : Int) (s4 : Int) (s5 : Option Addr) (sN sC : Nat) (s6 : Option Addr) (sN1 sC1 : Nat) (d : Bool) (d1 : Bool) (d2 : Int) (d3 : Int) (d4 : Int) (d5 : Int) (w : World) (Q : QP) : Prop :=
 RUNA PG (Instr.box 118 (.agg #[(.int .u16 s),(.int .u16 s1),(.int .u32 s2),(.int .u32 s3),(.int .u8 s4),(.slice s5 sN sC),(.slice s6 sN1 sC1)])) w fun a6 w1 =>
 RUNA PG (Instr.box 185 (.agg #[(.bool d),(.bool d1),(.int .u64 d2),(.int .u64 d3),(.int .u32 d4),(.int .u64 d5)])) w1 fun a7 w2 =>
 NILC f fun a10 =>
 RDI PG (loadVar 39 ((a10.add 0).add 0)) .i64 w2 fun x13 =>
 LETB (x13 == 1) fun x14 =>
 IFB x14
 (RD PG (loadVar 118 a6) w2 fun v =>
 ∃ x18 : Int,∃ x18v1 : Int,∃ x18v2 : Int,∃ x18v3 : Int,∃ x18v4 : Int,∃ (x18v5 : Option Addr) (x18N x18C : Nat),∃ (x18v6 : Option Addr) (x18N1 x18C1 : Nat),v = (.agg #[(.int .u16 x18),(.int .u16 x18v1),(.int .u32 x18v2),(.int .u32 x18v3),(.int .u8 x18v4),(.slice x18v5 x18N x18C),(.slice x18v6 x18N1 x18C1)]) /\
 (CALL PG 152 [(.pointer x),(.pointer f),(.agg #[(.int .u16 x18),(.int .u16 x18v1),(.int .u32 x18v2),(.int .u32 x18v3),(.int .u8 x18v4),(.slice x18v5 x18N x18C),(.slice x18v6 x18N1 x18C1)])] w2 fun v1 w3 =>
 ∃ x19 : Int,v1 = (.int .i64 x19) /\
 (LETI x19 fun x8 =>
 Q (.int .i64 x8) w3)))
 (LETB (x13 == 2) fun x20 =>
 IFB x20
 (RDI PG (loadVar 5 (a6.add 4)) .u8 w2 fun x23 =>
 IFB ((IntKind.u8.wrap (BitVec.ofInt (IntKind.u8.bits) x23 &&& BitVec.ofInt (IntKind.u8.bits) 1).toNat) != 0)
 (CALL PG 84 [(.pointer x),(.pointer f)] w2 fun v2 w4 =>
 v2 = (.tuple #[]) /\
 (Q (.int .i64 1) w4))
 (CALL PG 153 [(.pointer f)] w2 fun v3 w5 =>
 v3 = (.tuple #[]) /\
 (NILC x fun a32 =>
 RUNU PG (storeVar 39 (a32.add 25) (.int .i64 3)) w5 fun w6 =>
 CALL PG 92 [(.pointer x),(.pointer f),(.bool false),(.slice none 0 0)] w6 fun v4 w7 =>
 v4 = (.tuple #[]) /\
 (RD PG (loadVar 118 a6) w7 fun v5 =>
 ∃ x39 : Int,∃ x39v1 : Int,∃ x39v2 : Int,∃ x39v3 : Int,∃ x39v4 : Int,∃ (x39v5 : Option Addr) (x39N x39C : Nat),∃ (x39v6 : Option Addr) (x39N1 x39C1 : Nat),v5 = (.agg #[(.int .u16 x39),(.int .u16 x39v1),(.int .u32 x39v2),(.int .u32 x39v3),(.int .u8 x39v4),(.slice x39v5 x39N x39C),(.slice x39v6 x39N1 x39C1)]) /\
 (RD PG (loadVar 185 a7) w7 fun v6 =>
 ∃ x40 : Bool,∃ x40v1 : Bool,∃ x40v2 : Int,∃ x40v3 : Int,∃ x40v4 : Int,∃ x40v5 : Int,v6 = (.agg #[(.bool x40),(.bool x40v1),(.int .u64 x40v2),(.int .u64 x40v3),(.int .u32 x40v4),(.int .u64 x40v5)]) /\
 (CALL PG 154 [(.pointer x),(.pointer f),(.agg #[(.int .u16 x39),(.int .u16 x39v1),(.int .u32 x39v2),(.int .u32 x39v3),(.int .u8 x39v4),(.slice x39v5 x39N x39C),(.slice x39v6 x39N1 x39C1)]),(.agg #[(.bool x40),(.bool x40v1),(.int .u64 x40v2),(.int .u64 x40v3),(.int .u32 x40v4),(.int .u64 x40v5)])] w7 fun v7 w8 =>
 v7 = (.tuple #[]) /\
 (Q (.int .i64 1) w8)))))))
 (RD PG (loadVar 118 a6) w2 fun v8 =>
 ∃ x39v7 : Int,∃ x39v8 : Int,∃ x39v9 : Int,∃ x39v10 : Int,∃ x39v11 : Int,∃ (x39v12 : Option Addr) (x39N2 x39C2 : Nat),∃ (x39v13 : Option Addr) (x39N3 x39C3 : Nat),v8 = (.agg #[(.int .u16 x39v7),(.int .u16 x39v8),(.int .u32 x39v9),(.int .u32 x39v10),(.int .u8 x39v11),(.slice x39v12 x39N2 x39C2),(.slice x39v13 x39N3 x39C3)]) /\
 (RD PG (loadVar 185 a7) w2 fun v9 =>
 ∃ x40v6 : Bool,∃ x40v7 : Bool,∃ x40v8 : Int,∃ x40v9 : Int,∃ x40v10 : Int,∃ x40v11 : Int,v9 = (.agg #[(.bool x40v6),(.bool x40v7),(.int .u64 x40v8),(.int .u64 x40v9),(.int .u32 x40v10),(.int .u64 x40v11)]) /\
 (CALL PG 154 [(.pointer x),(.pointer f),(.agg #[(.int .u16 x39v7),(.int .u16 x39v8),(.int .u32 x39v9),(.int .u32 x39v10),(.int .u8 x39v11),(.slice x39v12 x39N2 x39C2),(.slice x39v13 x39N3 x39C3)]),(.agg #[(.bool x40v6),(.bool x40v7),(.int .u64 x40v8),(.int .u64 x40v9),(.int .u32 x40v10),(.int .u64 x40v11)])] w2 fun v10 w9 =>
 v10 = (.tuple #[]) /\
 (Q (.int .i64 1) w9)))))
theorem call94 {x : Option Addr} {f : Option Addr} {s : Int} {s1 : Int} {s2 : Int} {s3 : Int} {s4 : Int} {s5 : Option Addr} {sN sC : Nat} {s6 : Option Addr} {sN1 sC1 : Nat} {d : Bool} {d1 : Bool} {d2 : Int} {d3 : Int} {d4 : Int} {d5 : Int} {w : World} {Q : QP} (h_ : N94 x f s s1 s2 s3 s4 s5 sN sC s6 sN1 sC1 d d1 d2 d3 d4 d5 w Q) : CALL PG 94 [(.pointer x),(.pointer f),(.agg #[(.int .u16 s),(.int .u16 s1),(.int .u32 s2),(.int .u32 s3),(.int .u8 s4),(.slice s5 sN sC),(.slice s6 sN1 sC1)]),(.agg #[(.bool d),(.bool d1),(.int .u64 d2),(.int .u64 d3),(.int .u32 d4),(.int .u64 d5)])] w Q:=calls_vq .nil tabOk Tryz.func94 (by kernel_rfl) h_
def N152 (x : Option Addr) (f : Option Addr) (s : Int) (s1 : Int) (s2 : Int) (s3 : Int) (s4 : Int) (s5 : Option Addr) (sN sC : Nat) (s6 : Option Addr) (sN1 sC1 : Nat) (w : World) (Q : QP) : Prop :=
 RUNA PG (Instr.box 118 (.agg #[(.int .u16 s),(.int .u16 s1),(.int .u32 s2),(.int .u32 s3),(.int .u8 s4),(.slice s5 sN sC),(.slice s6 sN1 sC1)])) w fun a5 w1 =>
 ∃ R : World -> Prop,
 (NILC f fun a16 =>
 RDB PG (loadVar 4 (a16.add 14)) w1 fun x18 =>
 IFB x18
 (RD PG (loadVar 118 a5) w1 fun v =>
 ∃ x20 : Int,∃ x20v1 : Int,∃ x20v2 : Int,∃ x20v3 : Int,∃ x20v4 : Int,∃ (x20v5 : Option Addr) (x20N x20C : Nat),∃ (x20v6 : Option Addr) (x20N1 x20C1 : Nat),v = (.agg #[(.int .u16 x20),(.int .u16 x20v1),(.int .u32 x20v2),(.int .u32 x20v3),(.int .u8 x20v4),(.slice x20v5 x20N x20C),(.slice x20v6 x20N1 x20C1)]) /\
 (CALL PG 42 [(.agg #[(.int .u16 x20),(.int .u16 x20v1),(.int .u32 x20v2),(.int .u32 x20v3),(.int .u8 x20v4),(.slice x20v5 x20N x20C),(.slice x20v6 x20N1 x20C1)]),(.int .u8 1)] w1 fun v1 w2 =>
 ∃ x21 : Int,∃ (x21v1 : Option Addr) (x21N x21C : Nat),∃ x21v2 : Bool,v1 = (.tuple #[(.agg #[(.int .u8 x21),(.slice x21v1 x21N x21C)]),(.bool x21v2)]) /\
 (RUNA PG (Instr.alloc 122 true (.tuple #[])) w2 fun a7 w3 =>
 RUNU PG (storeVar 122 a7 (.agg #[(.int .u8 x21),(.slice x21v1 x21N x21C)])) w3 fun w4 =>
 LETB x21v2 fun okv =>
 RD PG (loadVar 122 a7) w4 fun v2 =>
 ∃ x25 : Int,∃ (x25v1 : Option Addr) (x25N x25C : Nat),v2 = (.agg #[(.int .u8 x25),(.slice x25v1 x25N x25C)]) /\
 (CALL PG 43 [(.agg #[(.int .u8 x25),(.slice x25v1 x25N x25C)])] w4 fun v3 w5 =>
 ∃ x26 : Int,∃ x26v1 : Bool,∃ x26v2 : Int,∃ x26v3 : Bool,v3 = (.tuple #[(.agg #[(.int .u64 x26),(.bool x26v1),(.int .u64 x26v2)]),(.bool x26v3)]) /\
 (RUNA PG (Instr.alloc 128 true (.tuple #[])) w5 fun a9 w6 =>
 RUNU PG (storeVar 128 a9 (.agg #[(.int .u64 x26),(.bool x26v1),(.int .u64 x26v2)])) w6 fun w7 =>
 LETB x26v3 fun isv =>
 ∃ S : World -> Prop,S (w7.drew) /\
 (IFB (!okv)
 (Q (.int .i64 2) (w7.drew))
 (IFB (!isv)
 (Q (.int .i64 2) (w7.drew))
 (RDSB PG (loadVar 4 (a9.add 1)) S fun x37 =>
 IFB (!x37)
 (Q (.int .i64 2) (w7.drew))
 (NILC x fun a42 =>
 RDSI PG (loadVar 25 (a42.add 27)) .u64 S fun x44 =>
 RDSI PG (loadVar 25 (a9.add 0)) .u64 S fun x46 =>
 RDS PG (loadVar 118 a5) S fun v4 =>
 ∃ x48 : Int,∃ x48v1 : Int,∃ x48v2 : Int,∃ x48v3 : Int,∃ x48v4 : Int,∃ (x48v5 : Option Addr) (x48N x48C : Nat),∃ (x48v6 : Option Addr) (x48N1 x48C1 : Nat),v4 = (.agg #[(.int .u16 x48),(.int .u16 x48v1),(.int .u32 x48v2),(.int .u32 x48v3),(.int .u8 x48v4),(.slice x48v5 x48N x48C),(.slice x48v6 x48N1 x48C1)]) /\
 (RDS PG (loadVar 122 a7) S fun v5 =>
 ∃ x49 : Int,∃ (x49v1 : Option Addr) (x49N x49C : Nat),v5 = (.agg #[(.int .u8 x49),(.slice x49v1 x49N x49C)]) /\
 (RDSI PG (loadVar 25 ((a9.add 2).add 0)) .u64 S fun x52 =>
 CALL PG 133 [(.int .u64 x44),(.int .u64 x46)] (w7.drew) fun v6 w8 =>
 ∃ x47 : Int,∃ x47v1 : Int,v6 = (.agg #[(.int .u64 x47),(.int .u64 x47v1)]) /\
 (∃ S1 : World -> Prop,(∀ x,S1 x -> S x) /\ S1 w8 /\
 (CALL PG 137 [(.agg #[(.int .u64 x47),(.int .u64 x47v1)]),(.agg #[(.int .u16 x48),(.int .u16 x48v1),(.int .u32 x48v2),(.int .u32 x48v3),(.int .u8 x48v4),(.slice x48v5 x48N x48C),(.slice x48v6 x48N1 x48C1)]),(.agg #[(.int .u8 x49),(.slice x49v1 x49N x49C)]),(.int .u64 x52)] w8 fun v7 w9 =>
 ∃ x53 : Bool,v7 = (.bool x53) /\
 (IFB (!x53)
 (Q (.int .i64 2) w9)
 (RDI PG (loadVar 25 (a9.add 0)) .u64 w9 fun x59 =>
 NILC x fun a60 =>
 RUNU PG (storeVar 25 (a60.add 28) (.int .u64 x59)) w9 fun w10 =>
 NILC x fun a62 =>
 RUNU PG (storeVar 4 (a62.add 29) (.bool true)) w10 fun w11 =>
 NILC x fun a66 =>
 RDI PG (loadVar 25 (a66.add 27)) .u64 (w11.drew) fun x68 =>
 RDI PG (loadVar 25 (a9.add 0)) .u64 (w11.drew) fun x70 =>
 CALL PG 9 [(.int .u64 x68),(.int .u64 x70)] (w11.drew) fun v8 w12 =>
 ∃ x71 : Int,∃ x71v1 : Int,∃ x71v2 : Int,∃ x71v3 : Int,∃ x71v4 : Int,∃ x71v5 : Int,∃ x71v6 : Int,∃ x71v7 : Int,∃ x71v8 : Int,v8 = (.agg #[(.int .u64 x71),(.int .u64 x71v1),(.int .u64 x71v2),(.int .u64 x71v3),(.int .u64 x71v4),(.int .u64 x71v5),(.int .u64 x71v6),(.int .u64 x71v7),(.int .u32 x71v8)]) /\
 (NILC x fun a72 =>
 RUNU PG (storeVar 56 (a72.add 0) (.agg #[(.int .u64 x71),(.int .u64 x71v1),(.int .u64 x71v2),(.int .u64 x71v3),(.int .u64 x71v4),(.int .u64 x71v5),(.int .u64 x71v6),(.int .u64 x71v7),(.int .u32 x71v8)])) w12 fun w13 =>
 NILC x fun a75 =>
 RUNU PG (storeVar 39 (a75.add 25) (.int .i64 3)) w13 fun w14 =>
 R w14))))))))))))))))
 (RD PG (loadVar 118 a5) w1 fun v9 =>
 ∃ x78 : Int,∃ x78v1 : Int,∃ x78v2 : Int,∃ x78v3 : Int,∃ x78v4 : Int,∃ (x78v5 : Option Addr) (x78N x78C : Nat),∃ (x78v6 : Option Addr) (x78N1 x78C1 : Nat),v9 = (.agg #[(.int .u16 x78),(.int .u16 x78v1),(.int .u32 x78v2),(.int .u32 x78v3),(.int .u8 x78v4),(.slice x78v5 x78N x78C),(.slice x78v6 x78N1 x78C1)]) /\
 (CALL PG 42 [(.agg #[(.int .u16 x78),(.int .u16 x78v1),(.int .u32 x78v2),(.int .u32 x78v3),(.int .u8 x78v4),(.slice x78v5 x78N x78C),(.slice x78v6 x78N1 x78C1)]),(.int .u8 2)] w1 fun v10 w15 =>
 ∃ x79 : Int,∃ (x79v1 : Option Addr) (x79N x79C : Nat),∃ x79v2 : Bool,v10 = (.tuple #[(.agg #[(.int .u8 x79),(.slice x79v1 x79N x79C)]),(.bool x79v2)]) /\
 (RUNA PG (Instr.alloc 122 true (.tuple #[])) w15 fun a11 w16 =>
 RUNU PG (storeVar 122 a11 (.agg #[(.int .u8 x79),(.slice x79v1 x79N x79C)])) w16 fun w17 =>
 LETB x79v2 fun okv1 =>
 RD PG (loadVar 122 a11) w17 fun v11 =>
 ∃ x83 : Int,∃ (x83v1 : Option Addr) (x83N x83C : Nat),v11 = (.agg #[(.int .u8 x83),(.slice x83v1 x83N x83C)]) /\
 (CALL PG 47 [(.agg #[(.int .u8 x83),(.slice x83v1 x83N x83C)])] w17 fun v12 w18 =>
 ∃ x84 : Int,∃ x84v1 : Int,∃ x84v2 : Int,∃ x84v3 : Bool,∃ x84v4 : Bool,∃ x84v5 : Int,∃ x84v6 : Bool,v12 = (.tuple #[(.agg #[(.int .u32 x84),(.int .u32 x84v1),(.int .u8 x84v2),(.bool x84v3),(.bool x84v4),(.int .u64 x84v5)]),(.bool x84v6)]) /\
 (RUNA PG (Instr.alloc 135 true (.tuple #[])) w18 fun a13 w19 =>
 RUNU PG (storeVar 135 a13 (.agg #[(.int .u32 x84),(.int .u32 x84v1),(.int .u8 x84v2),(.bool x84v3),(.bool x84v4),(.int .u64 x84v5)])) w19 fun w20 =>
 LETB x84v6 fun isv1 =>
 ∃ S2 : World -> Prop,S2 (w20.drew) /\
 (IFB (!okv1)
 (Q (.int .i64 2) (w20.drew))
 (IFB (!isv1)
 (Q (.int .i64 2) (w20.drew))
 (RDSB PG (loadVar 4 (a13.add 4)) S2 fun x95 =>
 IFB (!x95)
 (Q (.int .i64 2) (w20.drew))
 (NILC x fun a100 =>
 RDS PG (loadVar 56 (a100.add 0)) S2 fun v13 =>
 ∃ x102 : Int,∃ x102v1 : Int,∃ x102v2 : Int,∃ x102v3 : Int,∃ x102v4 : Int,∃ x102v5 : Int,∃ x102v6 : Int,∃ x102v7 : Int,∃ x102v8 : Int,v13 = (.agg #[(.int .u64 x102),(.int .u64 x102v1),(.int .u64 x102v2),(.int .u64 x102v3),(.int .u64 x102v4),(.int .u64 x102v5),(.int .u64 x102v6),(.int .u64 x102v7),(.int .u32 x102v8)]) /\
 (NILC f fun a104 =>
 RDSI PG (loadVar 26 (a104.add 15)) .u32 S2 fun x106 =>
 RDSI PG (loadVar 26 (a13.add 1)) .u32 S2 fun x108 =>
 RDS PG (loadVar 118 a5) S2 fun v14 =>
 ∃ x110 : Int,∃ x110v1 : Int,∃ x110v2 : Int,∃ x110v3 : Int,∃ x110v4 : Int,∃ (x110v5 : Option Addr) (x110N x110C : Nat),∃ (x110v6 : Option Addr) (x110N1 x110C1 : Nat),v14 = (.agg #[(.int .u16 x110),(.int .u16 x110v1),(.int .u32 x110v2),(.int .u32 x110v3),(.int .u8 x110v4),(.slice x110v5 x110N x110C),(.slice x110v6 x110N1 x110C1)]) /\
 (RDS PG (loadVar 122 a11) S2 fun v15 =>
 ∃ x111 : Int,∃ (x111v1 : Option Addr) (x111N x111C : Nat),v15 = (.agg #[(.int .u8 x111),(.slice x111v1 x111N x111C)]) /\
 (RDSI PG (loadVar 25 ((a13.add 5).add 0)) .u64 S2 fun x114 =>
 CALL PG 135 [(.agg #[(.int .u64 x102),(.int .u64 x102v1),(.int .u64 x102v2),(.int .u64 x102v3),(.int .u64 x102v4),(.int .u64 x102v5),(.int .u64 x102v6),(.int .u64 x102v7),(.int .u32 x102v8)]),(.int .u32 x106),(.int .u32 x108)] (w20.drew) fun v16 w21 =>
 ∃ x109 : Int,∃ x109v1 : Int,v16 = (.agg #[(.int .u64 x109),(.int .u64 x109v1)]) /\
 (∃ S3 : World -> Prop,(∀ x,S3 x -> S2 x) /\ S3 w21 /\
 (CALL PG 137 [(.agg #[(.int .u64 x109),(.int .u64 x109v1)]),(.agg #[(.int .u16 x110),(.int .u16 x110v1),(.int .u32 x110v2),(.int .u32 x110v3),(.int .u8 x110v4),(.slice x110v5 x110N x110C),(.slice x110v6 x110N1 x110C1)]),(.agg #[(.int .u8 x111),(.slice x111v1 x111N x111C)]),(.int .u64 x114)] w21 fun v17 w22 =>
 ∃ x115 : Bool,v17 = (.bool x115) /\
 (IFB (!x115)
 (Q (.int .i64 2) w22)
 (RDI PG (loadVar 26 (a13.add 1)) .u32 w22 fun x120 =>
 NILC f fun a121 =>
 RUNU PG (storeVar 26 (a121.add 16) (.int .u32 x120)) w22 fun w23 =>
 R w23))))))))))))))))) /\
 (∀  (w24 : World),R w24 -> (RDI PG (loadVar 26 (a5.add 2)) .u32 w24 fun x125 =>
 CALL PG 182 [(.pointer f),(.int .u32 x125)] w24 fun v18 w25 =>
 v18 = (.tuple #[]) /\
 (NILC x fun a128 =>
 RUNU PG (storeVar 3 (a128.add 45) (.int .i64 0)) w25 fun w26 =>
 CALL PG 92 [(.pointer x),(.pointer f),(.bool false),(.slice none 0 0)] w26 fun v19 w27 =>
 v19 = (.tuple #[]) /\
 (CALL PG 62 [(.pointer x)] w27 fun v20 w28 =>
 v20 = (.tuple #[]) /\
 (Q (.int .i64 1) w28)))))
theorem call152 {x : Option Addr} {f : Option Addr} {s : Int} {s1 : Int} {s2 : Int} {s3 : Int} {s4 : Int} {s5 : Option Addr} {sN sC : Nat} {s6 : Option Addr} {sN1 sC1 : Nat} {w : World} {Q : QP} (h_ : N152 x f s s1 s2 s3 s4 s5 sN sC s6 sN1 sC1 w Q) : CALL PG 152 [(.pointer x),(.pointer f),(.agg #[(.int .u16 s),(.int .u16 s1),(.int .u32 s2),(.int .u32 s3),(.int .u8 s4),(.slice s5 sN sC),(.slice s6 sN1 sC1)])] w Q:=calls_vq (.s .nil (.cut [] .nil .nil)) tabOk Tryz.func152 (by kernel_rfl) h_
def N154 (x : Option Addr) (f : Option Addr) (s : Int) (s1 : Int) (s2 : Int) (s3 : Int) (s4 : Int) (s5 : Option Addr) (sN sC : Nat) (s6 : Option Addr) (sN1 sC1 : Nat) (d : Bool) (d1 : Bool) (d2 : Int) (d3 : Int) (d4 : Int) (d5 : Int) (w : World) (Q : QP) : Prop :=
 RUNA PG (Instr.box 118 (.agg #[(.int .u16 s),(.int .u16 s1),(.int .u32 s2),(.int .u32 s3),(.int .u8 s4),(.slice s5 sN sC),(.slice s6 sN1 sC1)])) w fun a6 w1 =>
 RUNA PG (Instr.box 185 (.agg #[(.bool d),(.bool d1),(.int .u64 d2),(.int .u64 d3),(.int .u32 d4),(.int .u64 d5)])) w1 fun a7 w2 =>
 NILC x fun a15 =>
 RUNU PG (storeVar 3 (a15.add 45) (.int .i64 0)) w2 fun w3 =>
 NILC f fun a17 =>
 RUNU PG (storeVar 3 (a17.add 21) (.int .i64 0)) w3 fun w4 =>
 NILC f fun a19 =>
 RUNU PG (storeVar 4 (a19.add 22) (.bool true)) w4 fun w5 =>
 NILC f fun a22 =>
 RDP PG (loadVar 108 (a22.add 18)) w5 fun x24 =>
 CALL PG 184 [(.pointer x24)] w5 fun v w6 =>
 v = (.tuple #[]) /\
 (∃ R : World -> Prop,
 (RD PG (loadVar 118 a6) w6 fun v1 =>
 ∃ x27 : Int,∃ x27v1 : Int,∃ x27v2 : Int,∃ x27v3 : Int,∃ x27v4 : Int,∃ (x27v5 : Option Addr) (x27N x27C : Nat),∃ (x27v6 : Option Addr) (x27N1 x27C1 : Nat),v1 = (.agg #[(.int .u16 x27),(.int .u16 x27v1),(.int .u32 x27v2),(.int .u32 x27v3),(.int .u8 x27v4),(.slice x27v5 x27N x27C),(.slice x27v6 x27N1 x27C1)]) /\
 (CALL PG 185 [(.pointer f),(.agg #[(.int .u16 x27),(.int .u16 x27v1),(.int .u32 x27v2),(.int .u32 x27v3),(.int .u8 x27v4),(.slice x27v5 x27N x27C),(.slice x27v6 x27N1 x27C1)])] w6 fun v2 w7 =>
 ∃ x28 : Bool,v2 = (.bool x28) /\
 (IFB x28
 (NILC x fun a30 =>
 RDP PG (loadVar 62 (a30.add 37)) (w7.drew) fun x32 =>
 NILC f fun a34 =>
 RDI PG (loadVar 3 (a34.add 9)) .i64 (w7.drew) fun x36 =>
 RDI PG (loadVar 26 (a6.add 3)) .u32 (w7.drew) fun x38 =>
 CALL PG 186 [(.pointer x32),(.int .i64 x36),(.int .u32 x38)] (w7.drew) fun v3 w8 =>
 ∃ (x39 : Option Addr) (x39N x39C : Nat),v3 = (.slice x39 x39N x39C) /\
 (∃ I : Nat -> Int -> World -> Prop,
 (∃ m,I m 0 w8) /\
 (∀ m1 (x41 : Int) (w9 : World),I m1 x41 w9 -> (IFB (decide (x41 < (x39N : Int)))
 (IDX x39 x39N x41 fun a43 =>
 RD PG (loadVar 202 (a43.add (Int.toNat x41 * 9))) w9 fun v4 =>
 ∃ x44 : Int,∃ x44v1 : Int,∃ x44v2 : Bool,∃ x44v3 : Int,∃ x44v4 : Int,∃ x44v5 : Int,∃ x44v6 : Int,∃ x44v7 : Bool,∃ x44v8 : Bool,v4 = (.agg #[(.int .u64 x44),(.int .i64 x44v1),(.bool x44v2),(.int .i64 x44v3),(.int .u32 x44v4),(.int .i64 x44v5),(.int .i64 x44v6),(.bool x44v7),(.bool x44v8)]) /\
 (RUNA PG (Instr.alloc 202 true (.tuple #[])) w9 fun a9 w10 =>
 RUNU PG (storeVar 202 a9 (.agg #[(.int .u64 x44),(.int .i64 x44v1),(.bool x44v2),(.int .i64 x44v3),(.int .u32 x44v4),(.int .i64 x44v5),(.int .i64 x44v6),(.bool x44v7),(.bool x44v8)])) w10 fun w11 =>
 RD PG (loadVar 202 a9) w11 fun v5 =>
 ∃ x47 : Int,∃ x47v1 : Int,∃ x47v2 : Bool,∃ x47v3 : Int,∃ x47v4 : Int,∃ x47v5 : Int,∃ x47v6 : Int,∃ x47v7 : Bool,∃ x47v8 : Bool,v5 = (.agg #[(.int .u64 x47),(.int .i64 x47v1),(.bool x47v2),(.int .i64 x47v3),(.int .u32 x47v4),(.int .i64 x47v5),(.int .i64 x47v6),(.bool x47v7),(.bool x47v8)]) /\
 (CALL PG 187 [(.pointer x),(.pointer f),(.agg #[(.int .u64 x47),(.int .i64 x47v1),(.bool x47v2),(.int .i64 x47v3),(.int .u32 x47v4),(.int .i64 x47v5),(.int .i64 x47v6),(.bool x47v7),(.bool x47v8)])] w11 fun v6 w12 =>
 v6 = (.tuple #[]) /\
 (∃ m2,m2 < m1 /\ I m2 (IntKind.i64.wrap (x41 + 1)) w12))))
 (R w9)))))
 (R w7)))) /\
 (∀  (w13 : World),R w13 -> (RD PG (loadVar 185 a7) w13 fun v7 =>
 ∃ x51 : Bool,∃ x51v1 : Bool,∃ x51v2 : Int,∃ x51v3 : Int,∃ x51v4 : Int,∃ x51v5 : Int,v7 = (.agg #[(.bool x51),(.bool x51v1),(.int .u64 x51v2),(.int .u64 x51v3),(.int .u32 x51v4),(.int .u64 x51v5)]) /\
 (CALL PG 188 [(.pointer x),(.agg #[(.bool x51),(.bool x51v1),(.int .u64 x51v2),(.int .u64 x51v3),(.int .u32 x51v4),(.int .u64 x51v5)])] w13 fun v8 w14 =>
 v8 = (.tuple #[]) /\
 (NILC x fun a54 =>
 RDP PG (loadVar 61 (a54.add 36)) (w14.drew) fun x56 =>
 RDI PG (loadVar 25 (a7.add 2)) .u64 (w14.drew) fun x58 =>
 RDL PG (loadVar 41 (a6.add 6)) (w14.drew) fun x60 x60N x60C =>
 CALL PG 189 [(.pointer x56),(.int .u64 x58),(.slice x60 x60N x60C)] (w14.drew) fun v9 w15 =>
 ∃ x61 : Bool,v9 = (.bool x61) /\
 (∃ R1 : World -> Prop,
 (RDB PG (loadVar 4 (a7.add 0)) w15 fun x63 =>
 IFB x63
 (NILC x fun a65 =>
 RDP PG (loadVar 61 (a65.add 36)) (w15.drew) fun x67 =>
 RDI PG (loadVar 25 (a7.add 2)) .u64 (w15.drew) fun x69 =>
 RDL PG (loadVar 41 (a6.add 6)) (w15.drew) fun x71 x71N x71C =>
 CALL PG 190 [(.pointer x67),(.int .u64 (IntKind.u64.wrap (x69 + (IntKind.u64.wrap (x71N : Int)))))] (w15.drew) fun v10 w16 =>
 ∃ x75 : Bool,v10 = (.bool x75) /\
 (R1 w16))
 (R1 w15)) /\
 (∀  (w17 : World),R1 w17 -> (∃ S : World -> Prop,S (w17.drew) /\
 (RDS PG (loadVar 118 a6) S fun v11 =>
 ∃ x79 : Int,∃ x79v1 : Int,∃ x79v2 : Int,∃ x79v3 : Int,∃ x79v4 : Int,∃ (x79v5 : Option Addr) (x79N x79C : Nat),∃ (x79v6 : Option Addr) (x79N1 x79C1 : Nat),v11 = (.agg #[(.int .u16 x79),(.int .u16 x79v1),(.int .u32 x79v2),(.int .u32 x79v3),(.int .u8 x79v4),(.slice x79v5 x79N x79C),(.slice x79v6 x79N1 x79C1)]) /\
 (CALL PG 87 [(.pointer x),(.pointer f)] (w17.drew) fun v12 w18 =>
 ∃ x78 : Int,∃ x78v1 : Int,v12 = (.agg #[(.int .u64 x78),(.int .u64 x78v1)]) /\
 (∃ S1 : World -> Prop,(∀ x,S1 x -> S x) /\ S1 w18 /\
 (CALL PG 191 [(.agg #[(.int .u64 x78),(.int .u64 x78v1)]),(.agg #[(.int .u16 x79),(.int .u16 x79v1),(.int .u32 x79v2),(.int .u32 x79v3),(.int .u8 x79v4),(.slice x79v5 x79N x79C),(.slice x79v6 x79N1 x79C1)])] w18 fun v13 w19 =>
 ∃ (x80 : Option Addr) (x80N x80C : Nat),v13 = (.slice x80 x80N x80C) /\
 (∃ I1 : Nat -> Int -> World -> Prop,
 (∃ m3,I1 m3 0 w19) /\
 (∀ m4 (x82 : Int) (w20 : World),I1 m4 x82 w20 -> (IFB (decide (x82 < (x80N : Int)))
 (IDX x80 x80N x82 fun a84 =>
 RD PG (loadVar 152 (a84.add (Int.toNat x82 * 6))) w20 fun v14 =>
 ∃ x85 : Int,∃ x85v1 : Int,∃ x85v2 : Int,∃ x85v3 : Int,∃ x85v4 : Bool,∃ x85v5 : Int,v14 = (.agg #[(.int .u8 x85),(.int .u32 x85v1),(.int .u8 x85v2),(.int .u8 x85v3),(.bool x85v4),(.int .u64 x85v5)]) /\
 (RUNA PG (Instr.alloc 152 true (.tuple #[])) w20 fun a11 w21 =>
 RUNU PG (storeVar 152 a11 (.agg #[(.int .u8 x85),(.int .u32 x85v1),(.int .u8 x85v2),(.int .u8 x85v3),(.bool x85v4),(.int .u64 x85v5)])) w21 fun w22 =>
 RD PG (loadVar 152 a11) w22 fun v15 =>
 ∃ x88 : Int,∃ x88v1 : Int,∃ x88v2 : Int,∃ x88v3 : Int,∃ x88v4 : Bool,∃ x88v5 : Int,v15 = (.agg #[(.int .u8 x88),(.int .u32 x88v1),(.int .u8 x88v2),(.int .u8 x88v3),(.bool x88v4),(.int .u64 x88v5)]) /\
 (CALL PG 192 [(.pointer x),(.pointer f),(.agg #[(.int .u8 x88),(.int .u32 x88v1),(.int .u8 x88v2),(.int .u8 x88v3),(.bool x88v4),(.int .u64 x88v5)])] w22 fun v16 w23 =>
 v16 = (.tuple #[]) /\
 (∃ m5,m5 < m4 /\ I1 m5 (IntKind.i64.wrap (x82 + 1)) w23))))
 (NILC x fun a92 =>
 RDI PG (loadVar 39 (a92.add 25)) .i64 w20 fun x94 =>
 IFB (x94 == 4)
 (Q (.tuple #[]) w20)
 (RDL PG (loadVar 41 (a6.add 6)) w20 fun x97 x97N x97C =>
 IFB (decide ((x97N : Int) > 0))
 (CALL PG 92 [(.pointer x),(.pointer f),(.bool false),(.slice none 0 0)] w20 fun v17 w24 =>
 v17 = (.tuple #[]) /\
 (CALL PG 62 [(.pointer x)] w24 fun v18 w25 =>
 v18 = (.tuple #[]) /\
 (Q (.tuple #[]) w25)))
 (RDB PG (loadVar 4 (a7.add 0)) w20 fun x102 =>
 IFB x102
 (CALL PG 92 [(.pointer x),(.pointer f),(.bool false),(.slice none 0 0)] w20 fun v19 w26 =>
 v19 = (.tuple #[]) /\
 (CALL PG 62 [(.pointer x)] w26 fun v20 w27 =>
 v20 = (.tuple #[]) /\
 (Q (.tuple #[]) w27)))
 (RDB PG (loadVar 4 (a7.add 1)) w20 fun x106 =>
 IFB x106
 (CALL PG 92 [(.pointer x),(.pointer f),(.bool false),(.slice none 0 0)] w20 fun v21 w28 =>
 v21 = (.tuple #[]) /\
 (CALL PG 62 [(.pointer x)] w28 fun v22 w29 =>
 v22 = (.tuple #[]) /\
 (Q (.tuple #[]) w29)))
 (CALL PG 62 [(.pointer x)] w20 fun v23 w30 =>
 v23 = (.tuple #[]) /\
 (Q (.tuple #[]) w30)))))))))))))))))))))
theorem call154 {x : Option Addr} {f : Option Addr} {s : Int} {s1 : Int} {s2 : Int} {s3 : Int} {s4 : Int} {s5 : Option Addr} {sN sC : Nat} {s6 : Option Addr} {sN1 sC1 : Nat} {d : Bool} {d1 : Bool} {d2 : Int} {d3 : Int} {d4 : Int} {d5 : Int} {w : World} {Q : QP} (h_ : N154 x f s s1 s2 s3 s4 s5 sN sC s6 sN1 sC1 d d1 d2 d3 d4 d5 w Q) : CALL PG 154 [(.pointer x),(.pointer f),(.agg #[(.int .u16 s),(.int .u16 s1),(.int .u32 s2),(.int .u32 s3),(.int .u8 s4),(.slice s5 sN sC),(.slice s6 sN1 sC1)]),(.agg #[(.bool d),(.bool d1),(.int .u64 d2),(.int .u64 d3),(.int .u32 d4),(.int .u64 d5)])] w Q:=calls_vq (.s .nil (.s .nil (.s .nil (.cut [] (.s .nil (.c (.s .nil (.u (.loop [(41,3)] .nil))) .nil)) (.s .nil (.s .nil (.cut [] .nil (.s (.s .nil (.u (.loop [(82,3)] .nil))) .nil)))))))) tabOk Tryz.func154 (by kernel_rfl) h_
end Go.Br
