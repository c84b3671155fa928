/- MacKey, OptRead -/
import Derived.Test.YtmglifmopjedbaaGreatBrSeat
import Derived.Test.YtmglifmopjedbaaGreatJSegRound
import Derived.Test.YtmglifmopjedbaaGreatSip
/- What the code of some functions says,as the core reads it; each reading is checked by the kernel. -/
set_option linter.unusedVariables false
set_option maxRecDepth 100000
namespace Go.Br
open Go Go.Proofs
def N32 (k : Int) (k1 : Int) (parts : Option Addr) (partsN partsC : Nat) (w : World) (Q : QP) : Prop :=
 RUNA PG (Instr.box 28 (.agg #[(.int .u64 k),(.int .u64 k1)])) w fun a2 w1 =>
 RUNA PG (Instr.alloc 28 true (.tuple #[])) w1 fun a4 w2 =>
 RUNL PG (Instr.buildSlice 41 1 #[(0,(.int .u8 1))]) w2 fun x7 x7N x7C w3 =>
 RUNL PG (Instr.buildSlice 158 1 #[(0,(.slice x7 x7N x7C))]) w3 fun x8 x8N x8C w4 =>
 RUNL PG (Builtin.append_ #[158,158] 158 #[(.slice x8 x8N x8C),(.slice parts partsN partsC)]) w4 fun x10 x10N x10C w5 =>
 RUNL PG (Instr.buildSlice 41 1 #[(0,(.int .u8 2))]) w5 fun x11 x11N x11C w6 =>
 RUNL PG (Instr.buildSlice 158 1 #[(0,(.slice x11 x11N x11C))]) w6 fun x12 x12N x12C w7 =>
 RUNL PG (Builtin.append_ #[158,158] 158 #[(.slice x12 x12N x12C),(.slice parts partsN partsC)]) w7 fun x14 x14N x14C w8 =>
 ∃ S : World -> Prop,S (w8.drew) /\
 (RDS PG (loadVar 28 a2) S fun v =>
 ∃ x15 : Int,∃ x15v1 : Int,v = (.agg #[(.int .u64 x15),(.int .u64 x15v1)]) /\
 (RDS PG (loadVar 28 a2) S fun v1 =>
 ∃ x18 : Int,∃ x18v1 : Int,v1 = (.agg #[(.int .u64 x18),(.int .u64 x18v1)]) /\
 (CALL PG 33 [(.agg #[(.int .u64 x15),(.int .u64 x15v1)]),(.slice x10 x10N x10C)] (w8.drew) fun v2 w9 =>
 ∃ x17 : Int,v2 = (.int .u64 x17) /\
 (∃ S1 : World -> Prop,(∀ x,S1 x -> S x) /\ S1 w9 /\
 (CALL PG 33 [(.agg #[(.int .u64 x18),(.int .u64 x18v1)]),(.slice x14 x14N x14C)] w9 fun v3 w10 =>
 ∃ x20 : Int,v3 = (.int .u64 x20) /\
 (RD PG (Instr.build 28 #[(0,(.int .u64 x17)),(1,(.int .u64 x20))]) w10 fun v4 =>
 ∃ x21 : Int,∃ x21v1 : Int,v4 = (.agg #[(.int .u64 x21),(.int .u64 x21v1)]) /\
 (RUNU PG (storeVar 28 a4 (.agg #[(.int .u64 x21),(.int .u64 x21v1)])) w10 fun w11 =>
 RD PG (loadVar 28 a4) w11 fun v6 =>
 ∃ r : Int,∃ r1 : Int,v6 = (.agg #[(.int .u64 r),(.int .u64 r1)]) /\
 (Q (.agg #[(.int .u64 r),(.int .u64 r1)]) w11))))))))
theorem call32 {k : Int} {k1 : Int} {parts : Option Addr} {partsN partsC : Nat} {w : World} {Q : QP} (h_ : N32 k k1 parts partsN partsC w Q) : CALL PG 32 [(.agg #[(.int .u64 k),(.int .u64 k1)]),(.slice parts partsN partsC)] w Q:=calls_vq .nil tabOk Tryz.func32 (by kernel_rfl) h_
def N132 (k : Int) (k1 : Int) (s : Int) (s1 : Int) (s2 : Int) (s3 : Int) (s4 : Int) (s5 : Option Addr) (sN sC : Nat) (s6 : Option Addr) (sN1 sC1 : Nat) (x : Int) (x1 : Bool) (x2 : Int) (w : World) (Q : QP) : Prop :=
 RUNA PG (Instr.box 28 (.agg #[(.int .u64 k),(.int .u64 k1)])) w fun a3 w1 =>
 RUNA PG (Instr.box 118 (.agg #[(.int .u16 s),(.int .u16 s1),(.int .u32 s2),(.int .u32 s3),(.int .u8 s4),(.slice s5 sN sC),(.slice s6 sN1 sC1)])) w1 fun a4 w2 =>
 RUNA PG (Instr.box 128 (.agg #[(.int .u64 x),(.bool x1),(.int .u64 x2)])) w2 fun a5 w3 =>
 RUNA PG (Instr.alloc 122 true (.tuple #[])) w3 fun a6 w4 =>
 RUNU PG (storeVar 4 (a5.add 1) (.bool true)) w4 fun w5 =>
 ∃ S : World -> Prop,S (w5.drew) /\
 (RDS PG (loadVar 28 a3) S fun v =>
 ∃ x9 : Int,∃ x9v1 : Int,v = (.agg #[(.int .u64 x9),(.int .u64 x9v1)]) /\
 (RDS PG (loadVar 118 a4) S fun v1 =>
 ∃ x10 : Int,∃ x10v1 : Int,∃ x10v2 : Int,∃ x10v3 : Int,∃ x10v4 : Int,∃ (x10v5 : Option Addr) (x10N x10C : Nat),∃ (x10v6 : Option Addr) (x10N1 x10C1 : Nat),v1 = (.agg #[(.int .u16 x10),(.int .u16 x10v1),(.int .u32 x10v2),(.int .u32 x10v3),(.int .u8 x10v4),(.slice x10v5 x10N x10C),(.slice x10v6 x10N1 x10C1)]) /\
 (RDS PG (loadVar 128 a5) S fun v2 =>
 ∃ x11 : Int,∃ x11v1 : Bool,∃ x11v2 : Int,v2 = (.agg #[(.int .u64 x11),(.bool x11v1),(.int .u64 x11v2)]) /\
 (CALL PG 75 [(.agg #[(.int .u64 x11),(.bool x11v1),(.int .u64 x11v2)])] (w5.drew) fun v3 w6 =>
 ∃ x12 : Int,∃ (x12v1 : Option Addr) (x12N x12C : Nat),v3 = (.agg #[(.int .u8 x12),(.slice x12v1 x12N x12C)]) /\
 (∃ S1 : World -> Prop,(∀ x,S1 x -> S x) /\ S1 w6 /\
 (CALL PG 173 [(.agg #[(.int .u64 x9),(.int .u64 x9v1)]),(.agg #[(.int .u16 x10),(.int .u16 x10v1),(.int .u32 x10v2),(.int .u32 x10v3),(.int .u8 x10v4),(.slice x10v5 x10N x10C),(.slice x10v6 x10N1 x10C1)]),(.agg #[(.int .u8 x12),(.slice x12v1 x12N x12C)])] w6 fun v4 w7 =>
 ∃ x13 : Int,v4 = (.int .u64 x13) /\
 (CALL PG 172 [(.pointer (some (a5.add 2))),(.int .u64 x13)] w7 fun v5 w8 =>
 v5 = (.tuple #[]) /\
 (RD PG (loadVar 128 a5) w8 fun v6 =>
 ∃ x15 : Int,∃ x15v1 : Bool,∃ x15v2 : Int,v6 = (.agg #[(.int .u64 x15),(.bool x15v1),(.int .u64 x15v2)]) /\
 (CALL PG 75 [(.agg #[(.int .u64 x15),(.bool x15v1),(.int .u64 x15v2)])] w8 fun v7 w9 =>
 ∃ x16 : Int,∃ (x16v1 : Option Addr) (x16N x16C : Nat),v7 = (.agg #[(.int .u8 x16),(.slice x16v1 x16N x16C)]) /\
 (RUNU PG (storeVar 122 a6 (.agg #[(.int .u8 x16),(.slice x16v1 x16N x16C)])) w9 fun w10 =>
 RD PG (loadVar 122 a6) w10 fun v9 =>
 ∃ r : Int,∃ (r1 : Option Addr) (rN rC : Nat),v9 = (.agg #[(.int .u8 r),(.slice r1 rN rC)]) /\
 (Q (.agg #[(.int .u8 r),(.slice r1 rN rC)]) w10)))))))))))
theorem call132 {k : Int} {k1 : Int} {s : Int} {s1 : Int} {s2 : Int} {s3 : Int} {s4 : Int} {s5 : Option Addr} {sN sC : Nat} {s6 : Option Addr} {sN1 sC1 : Nat} {x : Int} {x1 : Bool} {x2 : Int} {w : World} {Q : QP} (h_ : N132 k k1 s s1 s2 s3 s4 s5 sN sC s6 sN1 sC1 x x1 x2 w Q) : CALL PG 132 [(.agg #[(.int .u64 k),(.int .u64 k1)]),(.agg #[(.int .u16 s),(.int .u16 s1),(.int .u32 s2),(.int .u32 s3),(.int .u8 s4),(.slice s5 sN sC),(.slice s6 sN1 sC1)]),(.agg #[(.int .u64 x),(.bool x1),(.int .u64 x2)])] w Q:=calls_vq .nil tabOk Tryz.func132 (by kernel_rfl) h_
def N133 (client : Int) (server : Int) (w : World) (Q : QP) : Prop :=
 RUNA PG (Instr.alloc 28 true (.tuple #[])) w fun a4 w1 =>
 RD PG (Instr.build 28 #[(0,(.int .u64 client)),(1,(.int .u64 server))]) w1 fun v =>
 ∃ x7 : Int,∃ x7v1 : Int,v = (.agg #[(.int .u64 x7),(.int .u64 x7v1)]) /\
 (RUNL PG (Instr.buildSlice 41 6 #[(0,(.int .u8 97)),(1,(.int .u8 110)),(2,(.int .u8 115)),(3,(.int .u8 119)),(4,(.int .u8 101)),(5,(.int .u8 114))]) w1 fun x8 x8N x8C w2 =>
 RUNL PG (convert 41 41 (.slice x8 x8N x8C)) w2 fun x9 x9N x9C w3 =>
 RUNL PG (Instr.buildSlice 158 1 #[(0,(.slice x9 x9N x9C))]) w3 fun x10 x10N x10C w4 =>
 CALL PG 32 [(.agg #[(.int .u64 x7),(.int .u64 x7v1)]),(.slice x10 x10N x10C)] w4 fun v1 w5 =>
 ∃ x11 : Int,∃ x11v1 : Int,v1 = (.agg #[(.int .u64 x11),(.int .u64 x11v1)]) /\
 (RUNU PG (storeVar 28 a4 (.agg #[(.int .u64 x11),(.int .u64 x11v1)])) w5 fun w6 =>
 RD PG (loadVar 28 a4) w6 fun v3 =>
 ∃ r : Int,∃ r1 : Int,v3 = (.agg #[(.int .u64 r),(.int .u64 r1)]) /\
 (Q (.agg #[(.int .u64 r),(.int .u64 r1)]) w6)))
theorem call133 {client : Int} {server : Int} {w : World} {Q : QP} (h_ : N133 client server w Q) : CALL PG 133 [(.int .u64 client),(.int .u64 server)] w Q:=calls_vq .nil tabOk Tryz.func133 (by kernel_rfl) h_
def N172 (t : Option Addr) (tag : Int) (w : World) (Q : QP) : Prop :=
 NILC t fun a6 =>
 RUNU PG (storeVar 25 (a6.add 0) (.int .u64 tag)) w fun w1 =>
 Q (.tuple #[]) w1
theorem call172 {t : Option Addr} {tag : Int} {w : World} {Q : QP} (h_ : N172 t tag w Q) : CALL PG 172 [(.pointer t),(.int .u64 tag)] w Q:=calls_vq .nil tabOk Tryz.func172 (by kernel_rfl) h_
def N173 (k : Int) (k1 : Int) (s : Int) (s1 : Int) (s2 : Int) (s3 : Int) (s4 : Int) (s5 : Option Addr) (sN sC : Nat) (s6 : Option Addr) (sN1 sC1 : Nat) (o : Int) (o1 : Option Addr) (oN oC : Nat) (w : World) (Q : QP) : Prop :=
 RUNA PG (Instr.box 28 (.agg #[(.int .u64 k),(.int .u64 k1)])) w fun a3 w1 =>
 RUNA PG (Instr.box 118 (.agg #[(.int .u16 s),(.int .u16 s1),(.int .u32 s2),(.int .u32 s3),(.int .u8 s4),(.slice s5 sN sC),(.slice s6 sN1 sC1)])) w1 fun a4 w2 =>
 RUNA PG (Instr.box 122 (.agg #[(.int .u8 o),(.slice o1 oN oC)])) w2 fun a5 w3 =>
 ∃ S : World -> Prop,S (w3.drew) /\
 (RDS PG (loadVar 28 a3) S fun v =>
 ∃ x7 : Int,∃ x7v1 : Int,v = (.agg #[(.int .u64 x7),(.int .u64 x7v1)]) /\
 (RDS PG (loadVar 118 a4) S fun v1 =>
 ∃ x8 : Int,∃ x8v1 : Int,∃ x8v2 : Int,∃ x8v3 : Int,∃ x8v4 : Int,∃ (x8v5 : Option Addr) (x8N x8C : Nat),∃ (x8v6 : Option Addr) (x8N1 x8C1 : Nat),v1 = (.agg #[(.int .u16 x8),(.int .u16 x8v1),(.int .u32 x8v2),(.int .u32 x8v3),(.int .u8 x8v4),(.slice x8v5 x8N x8C),(.slice x8v6 x8N1 x8C1)]) /\
 (RDS PG (loadVar 122 a5) S fun v2 =>
 ∃ x9 : Int,∃ (x9v1 : Option Addr) (x9N x9C : Nat),v2 = (.agg #[(.int .u8 x9),(.slice x9v1 x9N x9C)]) /\
 (CALL PG 201 [(.agg #[(.int .u16 x8),(.int .u16 x8v1),(.int .u32 x8v2),(.int .u32 x8v3),(.int .u8 x8v4),(.slice x8v5 x8N x8C),(.slice x8v6 x8N1 x8C1)]),(.agg #[(.int .u8 x9),(.slice x9v1 x9N x9C)])] (w3.drew) fun v3 w4 =>
 ∃ (x10 : Option Addr) (x10N x10C : Nat),v3 = (.slice x10 x10N x10C) /\
 (∃ S1 : World -> Prop,(∀ x,S1 x -> S x) /\ S1 w4 /\
 (RUNL PG (Instr.buildSlice 158 1 #[(0,(.slice x10 x10N x10C))]) w4 fun x11 x11N x11C w5 =>
 ∃ S2 : World -> Prop,(∀ x,S2 x -> S1 x) /\ S2 w5 /\
 (CALL PG 33 [(.agg #[(.int .u64 x7),(.int .u64 x7v1)]),(.slice x11 x11N x11C)] w5 fun v4 w6 =>
 ∃ x12 : Int,v4 = (.int .u64 x12) /\
 (LETI x12 fun x6 =>
 Q (.int .u64 x6) w6))))))))
theorem call173 {k : Int} {k1 : Int} {s : Int} {s1 : Int} {s2 : Int} {s3 : Int} {s4 : Int} {s5 : Option Addr} {sN sC : Nat} {s6 : Option Addr} {sN1 sC1 : Nat} {o : Int} {o1 : Option Addr} {oN oC : Nat} {w : World} {Q : QP} (h_ : N173 k k1 s s1 s2 s3 s4 s5 sN sC s6 sN1 sC1 o o1 oN oC w Q) : CALL PG 173 [(.agg #[(.int .u64 k),(.int .u64 k1)]),(.agg #[(.int .u16 s),(.int .u16 s1),(.int .u32 s2),(.int .u32 s3),(.int .u8 s4),(.slice s5 sN sC),(.slice s6 sN1 sC1)]),(.agg #[(.int .u8 o),(.slice o1 oN oC)])] w Q:=calls_vq .nil tabOk Tryz.func173 (by kernel_rfl) h_
def N201 (s : Int) (s1 : Int) (s2 : Int) (s3 : Int) (s4 : Int) (s5 : Option Addr) (sN sC : Nat) (s6 : Option Addr) (sN1 sC1 : Nat) (o : Int) (o1 : Option Addr) (oN oC : Nat) (w : World) (Q : QP) : Prop :=
 RUNA PG (Instr.box 118 (.agg #[(.int .u16 s),(.int .u16 s1),(.int .u32 s2),(.int .u32 s3),(.int .u8 s4),(.slice s5 sN sC),(.slice s6 sN1 sC1)])) w fun a2 w1 =>
 RUNA PG (Instr.box 122 (.agg #[(.int .u8 o),(.slice o1 oN oC)])) w1 fun a3 w2 =>
 RDL PG (loadVar 41 (a3.add 1)) w2 fun x8 x8N x8C =>
 RDL PG (loadVar 41 (a3.add 1)) w2 fun x10 x10N x10C =>
 NEED (0 <= (0 : Int) /\ (0 : Int) <= (maxN (IntKind.i64.wrap ((x10N : Int) - (8 : Int))) (0 : Int)) /\ (maxN (IntKind.i64.wrap ((x10N : Int) - (8 : Int))) (0 : Int)) <= ((x8C : Nat) : Int))
 (∃ S : World -> Prop,S (w2.drew) /\
 (RDS PG (loadVar 118 a2) S fun v =>
 ∃ x15 : Int,∃ x15v1 : Int,∃ x15v2 : Int,∃ x15v3 : Int,∃ x15v4 : Int,∃ (x15v5 : Option Addr) (x15N x15C : Nat),∃ (x15v6 : Option Addr) (x15N1 x15C1 : Nat),v = (.agg #[(.int .u16 x15),(.int .u16 x15v1),(.int .u32 x15v2),(.int .u32 x15v3),(.int .u8 x15v4),(.slice x15v5 x15N x15C),(.slice x15v6 x15N1 x15C1)]) /\
 (RDSI PG (loadVar 5 (a3.add 0)) .u8 S fun x18 =>
 RDSL PG (loadVar 41 (a3.add 1)) S fun x21 x21N x21C =>
 CALL PG 171 [(.agg #[(.int .u16 x15),(.int .u16 x15v1),(.int .u32 x15v2),(.int .u32 x15v3),(.int .u8 x15v4),(.slice x15v5 x15N x15C),(.slice x15v6 x15N1 x15C1)])] (w2.drew) fun v1 w3 =>
 ∃ (x16 : Option Addr) (x16N x16C : Nat),v1 = (.slice x16 x16N x16C) /\
 (∃ S1 : World -> Prop,(∀ x,S1 x -> S x) /\ S1 w3 /\
 (CALL PG 127 [(.int .u8 x18)] w3 fun v2 w4 =>
 ∃ x19 : Int,∃ x19v1 : Int,v2 = (.agg #[(.int .i64 x19),(.int .u64 x19v1)]) /\
 (∃ S2 : World -> Prop,(∀ x,S2 x -> S1 x) /\ S2 w4 /\
 (CALL PG 127 [(.int .u8 (IntKind.u8.wrap (x21N : Int)))] w4 fun v3 w5 =>
 ∃ x24 : Int,∃ x24v1 : Int,v3 = (.agg #[(.int .i64 x24),(.int .u64 x24v1)]) /\
 (RUNL PG (Instr.buildSlice 263 2 #[(0,(.agg #[(.int .i64 x19),(.int .u64 x19v1)])),(1,(.agg #[(.int .i64 x24),(.int .u64 x24v1)]))]) w5 fun x25 x25N x25C w6 =>
 CALL PG 124 [(.slice x16 x16N x16C),(.slice x25 x25N x25C)] w6 fun v4 w7 =>
 ∃ (x26 : Option Addr) (x26N x26C : Nat),v4 = (.slice x26 x26N x26C) /\
 (RUNL PG (Builtin.append_ #[41,41] 41 #[(.slice x26 x26N x26C),(.slice (cutA x8 x8C 1 0) (Int.toNat (maxN (IntKind.i64.wrap ((x10N : Int) - 8)) 0) - Int.toNat 0) (x8C - Int.toNat 0))]) w7 fun x29 x29N x29C w8 =>
 RDL PG (loadVar 41 (a2.add 6)) w8 fun x32 x32N x32C =>
 CALL PG 200 [(.int .u16 (IntKind.u16.wrap (x32N : Int)))] w8 fun v5 w9 =>
 ∃ x35 : Int,∃ x35v1 : Int,v5 = (.agg #[(.int .i64 x35),(.int .u64 x35v1)]) /\
 (RUNL PG (Instr.buildSlice 263 1 #[(0,(.agg #[(.int .i64 x35),(.int .u64 x35v1)]))]) w9 fun x36 x36N x36C w10 =>
 CALL PG 124 [(.slice x29 x29N x29C),(.slice x36 x36N x36C)] w10 fun v6 w11 =>
 ∃ (x37 : Option Addr) (x37N x37C : Nat),v6 = (.slice x37 x37N x37C) /\
 (RDL PG (loadVar 41 (a2.add 6)) w11 fun x40 x40N x40C =>
 RUNL PG (Builtin.append_ #[41,41] 41 #[(.slice x37 x37N x37C),(.slice x40 x40N x40C)]) w11 fun x41 x41N x41C w12 =>
 Q (.slice x41 x41N x41C) w12)))))))))))
theorem call201 {s : Int} {s1 : Int} {s2 : Int} {s3 : Int} {s4 : Int} {s5 : Option Addr} {sN sC : Nat} {s6 : Option Addr} {sN1 sC1 : Nat} {o : Int} {o1 : Option Addr} {oN oC : Nat} {w : World} {Q : QP} (h_ : N201 s s1 s2 s3 s4 s5 sN sC s6 sN1 sC1 o o1 oN oC w Q) : CALL PG 201 [(.agg #[(.int .u16 s),(.int .u16 s1),(.int .u32 s2),(.int .u32 s3),(.int .u8 s4),(.slice s5 sN sC),(.slice s6 sN1 sC1)]),(.agg #[(.int .u8 o),(.slice o1 oN oC)])] w Q:=calls_vq .nil tabOk Tryz.func201 (by kernel_rfl) h_
end Go.Br
/- Sums of segments: a pair of sums,what is covered,the tag,the option of an answer. -/
set_option linter.unusedVariables false
set_option linter.unusedSimpArgs false
set_option linter.unnecessarySimpa false
namespace Go.Br
open Go
instance biMacKeya (x0 : Int) (x1 : Int) : Bld PG (Instr.build 28 #[(0,.int .u64 x0),(1,.int .u64 x1)]) (.agg #[.int .u64 x0,.int .u64 x1]):=⟨fun w => by kernel_rfl⟩
instance biMacKeyb : Zro PG 28 2 16 (.agg #[.int .u64 0,.int .u64 0]):=⟨tiOf (by kernel_rfl)⟩
instance biMacKeyc : Zro PG 122 2 32 (.agg #[.int .u8 0,.slice none 0 0]):=⟨tiOf (by kernel_rfl)⟩
attribute [local irreducible] Addr.add RD RDS RUN RUNU NILC LETB CALL CALLX CALLV
theorem tiBytes : TI PG 41 1 24 (.slice none 0 0):=tiOf (by kernel_rfl)
theorem huParts : PG.underlying 158 = some (.slice 41):=by kernel_rfl
theorem bpv_flat (X : List Bp) : Flat (X.flatMap bpv):=by
 intro v hv
 simp only [List.mem_flatMap] at hv
 obtain ⟨x,_,hx⟩:=hv
 simp [bpv] at hx
 subst hx
 rfl
def pair1 (k0 k1 : Int) (bs : List UInt8) : Int:=sipS k0 k1 (1 :: bs)
def pair2 (k0 k1 : Int) (bs : List UInt8) : Int:=sipS k0 k1 (2 :: bs)
def coverB (s : SgP) (o : Int × List UInt8) : List UInt8:=hdB s ++ (beB o.1 1 ++ beB (o.2.length : Int) 1) ++ o.2.take (o.2.length - 8) ++ beB (s.ds.length : Int) 2 ++ s.ds
def tagS (k0 k1 : Int) (s : SgP) (o : Int × List UInt8) : Int:=sipS k0 k1 (coverB s o)
def ansB : List UInt8:=[97,110,115,119,101,114]
theorem ansB_bvs : bvs ansB = [.int .u8 97,.int .u8 110,.int .u8 115,.int .u8 119,.int .u8 101,.int .u8 114]:=by simp [bvs,ansB,bv]
section
variable {c : Ctx} {w : World} {L R : List SA}
theorem spair_ok (h : St c w L) {k0 k1 : Int} {A : Option Addr} {k : Nat} {X : List Bp} (hr : RdIn L A (X.flatMap bpv)) (hx : ∀ x ∈ X,RdIn L x.A (bvs x.bs)) (hl : (X.flatMap Bp.bs).length <= 10000) (hn : X.length <= 100) {Q : Value -> World -> Prop}
  (hk : ∀ w',St c w' L -> Q (.agg #[.int .u64 (pair1 k0 k1 (X.flatMap Bp.bs)),.int .u64 (pair2 k0 k1 (X.flatMap Bp.bs))]) w') : CALL PG 32 [.agg #[.int .u64 k0,.int .u64 k1],.slice A X.length k] w Q:=by
 refine call32 ?_
 unfold N32
 refine h.box fun q w' h => ?_
 refine h.allocZ fun q2 w' h => ?_
 refine h.lit (n:=1) 5 1 (bvs [1]) fun b1 w' h => ?_
 refine h.lit (n:=1) 41 1 (([⟨some ⟨b1,0,none⟩,[1],1⟩] : List Bp).flatMap bpv) fun p1 w' h => ?_
 refine h.append huParts tiBytes .head hr.more.more.more.more (m:=X.length) (flat_length (z:=1) (fun _ => rfl) X) (bpv_flat X) (by omega) fun O1 d1 w' h => ?_
 refine h.lit (n:=1) 5 1 (bvs [2]) fun b2 w' h => ?_
 refine h.lit (n:=1) 41 1 (([⟨some ⟨b2,0,none⟩,[2],1⟩] : List Bp).flatMap bpv) fun p2 w' h => ?_
 refine h.append huParts tiBytes .head hr.more.more.more.more.more.more (m:=X.length) (flat_length (z:=1) (fun _ => rfl) X) (bpv_flat X) (by omega) fun O2 d2 w' h => ?_
 have e1 : ([⟨some ⟨b1,0,none⟩,[1],1⟩] : List Bp).flatMap bpv ++ X.flatMap bpv = ((⟨some ⟨b1,0,none⟩,[1],1⟩ : Bp) :: X).flatMap bpv:=by simp
 have e2 : ([⟨some ⟨b2,0,none⟩,[2],1⟩] : List Bp).flatMap bpv ++ X.flatMap bpv = ((⟨some ⟨b2,0,none⟩,[2],1⟩ : Bp) :: X).flatMap bpv:=by simp
 rw [e1,e2,Nat.add_comm 1 X.length] at h
 have e3 : ((⟨some ⟨b1,0,none⟩,[1],1⟩ : Bp) :: X).flatMap Bp.bs = 1 :: X.flatMap Bp.bs:=rfl
 have e4 : ((⟨some ⟨b2,0,none⟩,[2],1⟩ : Bp) :: X).flatMap Bp.bs = 2 :: X.flatMap Bp.bs:=rfl
 have q1 : sipS k0 k1 (((⟨some ⟨b1,0,none⟩,[1],1⟩ : Bp) :: X).flatMap Bp.bs) = pair1 k0 k1 (X.flatMap Bp.bs):=by rw [e3,pair1]
 have q2e : sipS k0 k1 (((⟨some ⟨b2,0,none⟩,[2],1⟩ : Bp) :: X).flatMap Bp.bs) = pair2 k0 k1 (X.flatMap Bp.bs):=by rw [e4,pair2]
 generalize pair1 k0 k1 (X.flatMap Bp.bs) = v1 at hk q1
 generalize pair2 k0 k1 (X.flatMap Bp.bs) = v2 at hk q2e
 have h:=h.drew
 refine ⟨fun w => St c w [blk q 28 [.int .u64 k0,.int .u64 k1]],h.sub (.cons (.tail (.tail (.tail (.tail (.tail .head))))) (.nil)),?_⟩
 refine St.rdsG (B:=q) ?_
 (repeat apply exi)
 apply exr
 refine St.rdsG (B:=q) ?_
 (repeat apply exi)
 apply exr
 rw [Nat.add_comm 1 X.length]
 refine sum_ok h (X:=(⟨some ⟨b1,0,none⟩,[1],1⟩ : Bp) :: X) (RdIn.own (.tail (.tail .head))) (fun x hx' => ?_) (by rw [e3,List.length_cons]; omega) (by rw [List.length_cons]; omega) fun w' h => ?_
 ·rcases List.mem_cons.1 hx' with rfl | hx'
  ·exact RdIn.own (.tail (.tail (.tail .head)))
  ·exact (hx x hx').more.more.more.more.more.more
 rw [q1]
 (repeat apply exi)
 apply exr
 refine ⟨_,fun _ h => h,h.sub (.cons (.tail (.tail (.tail (.tail (.tail .head))))) (.nil)),?_⟩
 refine sum_ok h (X:=(⟨some ⟨b2,0,none⟩,[2],1⟩ : Bp) :: X) (RdIn.own .head) (fun x hx' => ?_) (by rw [e4,List.length_cons]; omega) (by rw [List.length_cons]; omega) fun w' h => ?_
 ·rcases List.mem_cons.1 hx' with rfl | hx'
  ·exact RdIn.own (.tail .head)
  ·exact (hx x hx').more.more.more.more.more.more
 rw [q2e]
 (repeat apply exi)
 apply exr
 refine RD.bld ?_
 (repeat apply exi)
 apply exr
 have h:=h.sub (show Sub _ (blk q2 28 [.int .u64 0,.int .u64 0] :: L) from (.cons (.tail (.tail (.tail (.tail .head)))) ((Sub.same _).more.more.more.more.more)))
 refine h.stG (B:=q2) (fun w' h => ?_) (hl:=by simp)
 refine h.rdG (B:=q2) ?_
 (repeat apply exi)
 apply exr
 exact hk _ h.drop
theorem handshake_ok (h : St c w L) {k0 k1 : Int} {Q : Value -> World -> Prop} (hk : ∀ w',St c w' L -> Q (.agg #[.int .u64 (pair1 k0 k1 ansB),.int .u64 (pair2 k0 k1 ansB)]) w') : CALL PG 133 [.int .u64 k0,.int .u64 k1] w Q:=by
 refine call133 ?_
 unfold N133
 refine h.allocZ fun q w' h => ?_
 refine RD.bld ?_
 (repeat apply exi)
 apply exr
 refine h.lit (n:=6) 5 1 [.int .u8 97,.int .u8 110,.int .u8 115,.int .u8 119,.int .u8 101,.int .u8 114] fun b w' h => ?_
 rw [<- ansB_bvs] at h
 refine h.bytesBytes (u:=5) .head fun w' h => ?_
 refine h.lit (n:=1) 41 1 (([⟨some ⟨b,0,none⟩,ansB,6⟩] : List Bp).flatMap bpv) fun q2 w' h => ?_
 refine spair_ok h (X:=[⟨some ⟨b,0,none⟩,ansB,6⟩]) (RdIn.own .head) (fun x hx => ?_) (by simp [ansB]) (by simp) fun w' h => ?_
 ·rw [List.mem_singleton] at hx
  subst hx
  exact RdIn.own (.tail .head)
 have e : ([⟨some ⟨b,0,none⟩,ansB,6⟩] : List Bp).flatMap Bp.bs = ansB:=by simp
 rw [e]
 generalize pair1 k0 k1 ansB = v1 at hk ⊢
 generalize pair2 k0 k1 ansB = v2 at hk ⊢
 (repeat apply exi)
 apply exr
 refine h.stG (B:=q) (fun w' h => ?_) (hl:=by simp)
 refine h.rdG (B:=q) ?_
 (repeat apply exi)
 apply exr
 exact hk _ (h.sub ((Sub.same _).more.more.more))
theorem rd_take {A : Option Addr} {bs : List UInt8} (h : RdIn L A (bvs bs)) (n : Nat) : RdIn L A (bvs (bs.take n)):=fun c w hs j v hj => h c w hs j v (by
 rw [bvs,List.map_take,List.getElem?_take] at hj
 split at hj
 ·exact hj
 ·cases hj)
abbrev sgc (s : Sg) : List Value:=[.int .u16 s.src,.int .u16 s.dst,.int .u32 s.seq,.int .u32 s.ack,.int .u8 s.flags,.slice s.oA s.os.length s.oC,.slice s.dA s.ds.length s.dC]
theorem cover_ok (h : St c w L) {s : Sg} (hs : SgIn L s) (ok : SgOk s.pl) {o : Opx} (ho : RdIn L o.body (bvs o.bodys)) (hc : o.bodys.length <= o.bodyC) (hk1 : 0 <= o.kind /\ o.kind < 256) (hlen : o.bodys.length <= 255) {Q : Value -> World -> Prop}
  (hk : ∀ O k w',St c w' (own 5 1 O (coverB s.pl (opl o)).length k (bvs (coverB s.pl (opl o))) :: L) -> Q (.slice O (coverB s.pl (opl o)).length k) w') : CALL PG 201 [sgv s,opxv o] w Q:=by
 have hd : s.ds.length <= 1024:=ok.data
 have hh : (hdB s.pl).length = 13:=hdB_length _
 refine call201 ?_
 unfold N201
 refine h.box (vs:=sgc s) fun q1 w' h => ?_
 refine h.box (vs:=opx o) fun q2 w' h => ?_
 refine h.rdL (B:=q2) 1 (h.rdL (B:=q2) 1 ?_)
 have em : maxN (IntKind.i64.wrap ((o.bodys.length : Int) - 8)) 0 = ((o.bodys.length - 8 : Nat) : Int):=by
  rw [wrap_i64 (by omega) (by omega)]; unfold maxN; split <;> omega
 rw [em]
 refine ⟨⟨by decide,by omega,by omega⟩,?_⟩
 rw [cutA_zero,Int.toNat_natCast,show Int.toNat (0 : Int) = 0 from rfl,Nat.sub_zero,Nat.sub_zero]
 have h:=h.drew
 refine ⟨fun w => St c w [blk q1 118 (sgc s),blk q2 122 (opx o)],h.sub (.cons (.tail .head) (.cons .head (.nil))),?_⟩
 refine St.rdsG (B:=q1) ?_
 (repeat apply exi)
 apply exr
 refine St.rdsI (B:=q2) 0 (St.rdsL (B:=q2) 1 ?_)
 refine seghead_ok h ok fun O1 k1 w' h => ?_
 (repeat apply exi)
 apply exr
 refine ⟨_,fun _ h => h,h.sub (.cons (.tail (.tail .head)) (.cons (.tail .head) (.nil))),?_⟩
 refine packB_ok h hk1.1 hk1.2 fun w' h => ?_
 (repeat apply exi)
 apply exr
 refine ⟨_,fun _ h => h,h.sub (.cons (.tail (.tail .head)) (.cons (.tail .head) (.nil))),?_⟩
 rw [show IntKind.u8.wrap (o.bodys.length : Int) = (o.bodys.length : Int) by rw [wrapU8]; omega]
 refine packB_ok h (by omega) (by omega) fun w' h => ?_
 (repeat apply exi)
 apply exr
 refine h.lit (n:=2) 223 2 (([⟨1,o.kind⟩,⟨1,(o.bodys.length : Int)⟩] : List Fd).flatMap fd) fun q3 w' h => ?_
 refine pput_ok h (A:=O1) (bs:=hdB s.pl) (C:=k1) (fs:=[⟨1,o.kind⟩,⟨1,(o.bodys.length : Int)⟩]) (RdIn.own (.tail .head)) (RdIn.own .head) (by simp [FdOk]; omega) (by omega) (by simp) fun O2 k2 w' h => ⟨_,_,_,rfl,?_⟩
 have e1 : hdB s.pl ++ ([⟨1,o.kind⟩,⟨1,(o.bodys.length : Int)⟩] : List Fd).flatMap fdb = hdB s.pl ++ (beB o.kind 1 ++ beB (o.bodys.length : Int) 1):=by simp [fdb]
 rw [e1] at h ⊢
 have l1 : (hdB s.pl ++ (beB o.kind 1 ++ beB (o.bodys.length : Int) 1)).length = 15:=by simp [hh,beB_length]
 refine h.append huPk tiPkU8 .head (rd_take (ho.more.more.more.more.more) (o.bodys.length - 8)) (m:=o.bodys.length - 8) (by rw [bvs_length,List.length_take]; omega) (Flat.bvs _) (by rw [l1]; omega) fun O3 k3 w' h => ?_
 refine h.rdL (B:=q1) 6 ?_
 rw [show IntKind.u16.wrap (s.ds.length : Int) = (s.ds.length : Int) by rw [wrapU16]; omega]
 refine packH_ok h (by omega) (by omega) fun w' h => ?_
 (repeat apply exi)
 apply exr
 refine h.lit (n:=1) 223 2 (([⟨2,(s.ds.length : Int)⟩] : List Fd).flatMap fd) fun q4 w' h => ?_
 have e2 : bvs (hdB s.pl ++ (beB o.kind 1 ++ beB (o.bodys.length : Int) 1)) ++ bvs (o.bodys.take (o.bodys.length - 8)) = bvs (hdB s.pl ++ (beB o.kind 1 ++ beB (o.bodys.length : Int) 1) ++ o.bodys.take (o.bodys.length - 8)):=by simp [bvs]
 have l2 : (hdB s.pl ++ (beB o.kind 1 ++ beB (o.bodys.length : Int) 1)).length + (o.bodys.length - 8) = (hdB s.pl ++ (beB o.kind 1 ++ beB (o.bodys.length : Int) 1) ++ o.bodys.take (o.bodys.length - 8)).length:=by simp only [List.length_append,List.length_take]; omega
 rw [e2,l2] at h
 rw [l2]
 have l3 : (hdB s.pl ++ (beB o.kind 1 ++ beB (o.bodys.length : Int) 1) ++ o.bodys.take (o.bodys.length - 8)).length <= 300:=by rw [<- l2,l1]; omega
 refine pput_ok h (fs:=[⟨2,(s.ds.length : Int)⟩]) (RdIn.own (.tail .head)) (RdIn.own .head) (by simp [FdOk]; omega) (by omega) (by simp) fun O4 k4 w' h => ⟨_,_,_,rfl,?_⟩
 have e3 : hdB s.pl ++ (beB o.kind 1 ++ beB (o.bodys.length : Int) 1) ++ o.bodys.take (o.bodys.length - 8) ++ ([⟨2,(s.ds.length : Int)⟩] : List Fd).flatMap fdb = hdB s.pl ++ (beB o.kind 1 ++ beB (o.bodys.length : Int) 1) ++ o.bodys.take (o.bodys.length - 8) ++ beB (s.ds.length : Int) 2:=by simp [fdb]
 rw [e3] at h ⊢
 have l4 : (hdB s.pl ++ (beB o.kind 1 ++ beB (o.bodys.length : Int) 1) ++ o.bodys.take (o.bodys.length - 8) ++ beB (s.ds.length : Int) 2).length <= 400:=by rw [List.length_append,beB_length]; omega
 refine h.rdL (B:=q1) 6 ?_
 refine h.append huPk tiPkU8 .head (hs.data.more.more.more.more.more.more.more) (m:=s.ds.length) (by rw [bvs_length,Nat.mul_one]) (Flat.bvs _) (by omega) fun O5 k5 w' h => ?_
 have e4 : bvs (hdB s.pl ++ (beB o.kind 1 ++ beB (o.bodys.length : Int) 1) ++ o.bodys.take (o.bodys.length - 8) ++ beB (s.ds.length : Int) 2) ++ bvs s.ds = bvs (coverB s.pl (opl o)):=by simp [bvs,coverB,opl,Sg.pl]
 have l5 : (hdB s.pl ++ (beB o.kind 1 ++ beB (o.bodys.length : Int) 1) ++ o.bodys.take (o.bodys.length - 8) ++ beB (s.ds.length : Int) 2).length + s.ds.length = (coverB s.pl (opl o)).length:=by
  have:=congrArg List.length e4
  rw [List.length_append,bvs_length,bvs_length,bvs_length] at this
  exact this
 rw [e4,l5] at h
 rw [l5]
 exact hk O5 k5 _ (h.sub (.cons .head ((Sub.same _).more.more.more.more.more.more)))
theorem tag_ok (h : St c w L) {k0 k1 : Int} {s : Sg} (hs : SgIn L s) (ok : SgOk s.pl) {o : Opx} (ho : RdIn L o.body (bvs o.bodys)) (hc : o.bodys.length <= o.bodyC) (hk1 : 0 <= o.kind /\ o.kind < 256) (hlen : o.bodys.length <= 255) {Q : Value -> World -> Prop}
  (hk : ∀ w',St c w' L -> Q (.int .u64 (tagS k0 k1 s.pl (opl o))) w') : CALL PG 173 [.agg #[.int .u64 k0,.int .u64 k1],sgv s,opxv o] w Q:=by
 have hd : s.ds.length <= 1024:=ok.data
 have hl : (coverB s.pl (opl o)).length <= 2000:=by
  simp only [coverB,List.length_append,beB_length,List.length_take,hdB_length]
  show 13 + (1 + 1) + min (o.bodys.length - 8) o.bodys.length + 2 + s.ds.length <= 2000
  omega
 refine call173 ?_
 unfold N173
 refine h.box (vs:=[.int .u64 k0,.int .u64 k1]) fun q0 w' h => ?_
 refine h.box (vs:=sgc s) fun q1 w' h => ?_
 refine h.box (vs:=opx o) fun q2 w' h => ?_
 have h:=h.drew
 refine ⟨fun w => St c w [blk q0 28 [.int .u64 k0,.int .u64 k1],blk q1 118 (sgc s),blk q2 122 (opx o)],h.sub (.cons (.tail (.tail .head)) (.cons (.tail .head) (.cons .head (.nil)))),?_⟩
 refine St.rdsG (B:=q0) ?_
 (repeat apply exi)
 apply exr
 refine St.rdsG (B:=q1) ?_
 (repeat apply exi)
 apply exr
 refine St.rdsG (B:=q2) ?_
 (repeat apply exi)
 apply exr
 refine cover_ok h hs.more.more.more ok ho.more.more.more hc hk1 hlen fun O k w' h => ?_
 (repeat apply exi)
 apply exr
 refine ⟨_,fun _ h => h,h.sub (.cons (.tail (.tail (.tail .head))) (.cons (.tail (.tail .head)) (.cons (.tail .head) (.nil)))),?_⟩
 refine h.lit (n:=1) 41 1 (([⟨O,coverB s.pl (opl o),k⟩] : List Bp).flatMap bpv) fun q3 w' h => ?_
 refine ⟨_,fun _ h => h,h.sub (.cons (.tail (.tail (.tail (.tail .head)))) (.cons (.tail (.tail (.tail .head))) (.cons (.tail (.tail .head)) (.nil)))),?_⟩
 refine sum_ok h (X:=[⟨O,coverB s.pl (opl o),k⟩]) (RdIn.own .head) (fun x hx => ?_) (by simp; omega) (by simp) fun w' h => ?_
 ·rw [List.mem_singleton] at hx
  subst hx
  exact RdIn.own (.tail .head)
 (repeat apply exi)
 apply exr
 have e : sipS k0 k1 (([⟨O,coverB s.pl (opl o),k⟩] : List Bp).flatMap Bp.bs) = tagS k0 k1 s.pl (opl o):=by simp [tagS]
 rw [e]
 exact leti rfl (hk _ (h.sub ((Sub.same _).more.more.more.more.more)))
theorem seal_ok {B : Nat} {cs : List Value} {v tag : Int} (h : St c w (blk B 128 [.int .u64 v,.bool true,.int .u64 0] :: L)) {Q : Value -> World -> Prop} (hk : ∀ w',St c w' (blk B 128 [.int .u64 v,.bool true,.int .u64 tag] :: L) -> Q (.tuple #[]) w') :
  CALL PG 172 [.pointer (some (Addr.add ⟨B,0,none⟩ 2)),.int .u64 tag] w Q:=by
 refine call172 ?_
 unfold N172
 refine nilc ?_
 refine h.st2 (B:=B) 2 0 fun w' h => ?_
 exact hk _ h
theorem mackey_ok (h : St c w L) {k0 k1 : Int} {s : Sg} (hs : SgIn L s) (ok : SgOk s.pl) {key : Int} (h0 : 0 <= key /\ key < 18446744073709551616) {Q : Value -> World -> Prop}
  (hk : ∀ o w',opl o = (1,keyB key (tagS k0 k1 s.pl (1,keyB key 0 true)) true) -> St c w' (opp o :: L) -> Q (opxv o) w') : CALL PG 132 [.agg #[.int .u64 k0,.int .u64 k1],sgv s,.agg #[.int .u64 key,.bool false,.int .u64 0]] w Q:=by
 refine call132 ?_
 unfold N132
 refine h.box (vs:=[.int .u64 k0,.int .u64 k1]) fun q0 w' h => ?_
 refine h.box (vs:=sgc s) fun q1 w' h => ?_
 refine h.box (vs:=[.int .u64 key,.bool false,.int .u64 0]) fun q2 w' h => ?_
 refine h.allocZ fun q3 w' h => ?_
 refine h.st (B:=q2) 1 fun w' h => ?_
 have h : St c w' (blk q2 128 [.int .u64 key,.bool true,.int .u64 0] :: blk q3 122 (opx ⟨0,none,0,[]⟩) :: blk q1 118 (sgc s) :: blk q0 28 [.int .u64 k0,.int .u64 k1] :: L):=h
 have h:=h.drew
 refine ⟨fun w => St c w [blk q0 28 [.int .u64 k0,.int .u64 k1],blk q1 118 (sgc s),blk q2 128 [.int .u64 key,.bool true,.int .u64 0]],h.sub (.cons (.tail (.tail (.tail .head))) (.cons (.tail (.tail .head)) (.cons .head (.nil)))),?_⟩
 refine St.rdsG (B:=q0) ?_
 (repeat apply exi)
 apply exr
 refine St.rdsG (B:=q1) ?_
 (repeat apply exi)
 apply exr
 refine St.rdsG (B:=q2) ?_
 (repeat apply exi)
 apply exr
 refine okeyC_ok h h0.1 h0.2 (show (0 : Int) <= 0 by decide) (show (0 : Int) < 18446744073709551616 by decide) fun o w' eo hc h => ?_
 (repeat apply exi)
 apply exr
 refine ⟨_,fun _ h => h,h.sub (.cons (.tail (.tail (.tail (.tail .head)))) (.cons (.tail (.tail (.tail .head))) (.cons (.tail .head) (.nil)))),?_⟩
 have ek : o.kind = 1:=congrArg Prod.fst eo
 have eb : o.bodys = keyB key 0 true:=congrArg Prod.snd eo
 refine tag_ok h hs.more.more.more.more.more ok (RdIn.rows .head) hc (by rw [ek]; decide) (by rw [eb]; simp [keyB,beB_length]) fun w' h => ?_
 rw [eo]
 have htr : 0 <= tagS k0 k1 s.pl (1,keyB key 0 true) /\ tagS k0 k1 s.pl (1,keyB key 0 true) < 18446744073709551616:=sipS_range _ _ _
 generalize tagS k0 k1 s.pl (1,keyB key 0 true) = tg at hk htr ⊢
 (repeat apply exi)
 apply exr
 refine seal_ok (cs:=[]) (h.sub (show Sub _ (blk q2 128 [.int .u64 key,.bool true,.int .u64 0] :: blk q3 122 (opx ⟨0,none,0,[]⟩) :: L) from (.cons (.tail .head) (.cons (.tail .head) ((Sub.same _).more.more.more))))) fun w' h => ⟨rfl,?_⟩
 refine h.rdG (B:=q2) ?_
 (repeat apply exi)
 apply exr
 refine okeyC_ok h h0.1 h0.2 htr.1 htr.2 fun o w' eo hc h => ?_
 (repeat apply exi)
 apply exr
 refine h.stG (B:=q3) (fun w' h => ?_) (hl:=opx_length _)
 refine h.rdG (B:=q3) ?_
 (repeat apply exi)
 apply exr
 exact hk o _ eo (h.sub (.cons (.tail .head) ((Sub.same _).more.more)))
end
end Go.Br
/- What the code of some functions says,as the core reads it; each reading is checked by the kernel. -/
set_option linter.unusedVariables false
set_option maxRecDepth 100000
namespace Go.Br
open Go Go.Proofs
def N42 (s : Int) (s1 : Int) (s2 : Int) (s3 : Int) (s4 : Int) (s5 : Option Addr) (sN sC : Nat) (s6 : Option Addr) (sN1 sC1 : Nat) (kind : Int) (w : World) (Q : QP) : Prop :=
 RUNA PG (Instr.box 118 (.agg #[(.int .u16 s),(.int .u16 s1),(.int .u32 s2),(.int .u32 s3),(.int .u8 s4),(.slice s5 sN sC),(.slice s6 sN1 sC1)])) w fun a2 w1 =>
 RUNA PG (Instr.alloc 122 true (.tuple #[])) w1 fun a4 w2 =>
 RUNA PG (Instr.alloc 122 true (.tuple #[])) w2 fun a6 w3 =>
 RDL PG (loadVar 116 (a2.add 5)) w3 fun x11 x11N x11C =>
 ∃ I : Nat -> Int -> Int -> World -> Prop,
 (∃ m,I m 0 0 w3) /\
 (∀ m1 (n : Int) (x13 : Int) (w4 : World),I m1 n x13 w4 -> (IFB (decide (x13 < (x11N : Int)))
 (IDX x11 x11N x13 fun a15 =>
 RD PG (loadVar 122 (a15.add (Int.toNat x13 * 2))) w4 fun v =>
 ∃ x16 : Int,∃ (x16v1 : Option Addr) (x16N x16C : Nat),v = (.agg #[(.int .u8 x16),(.slice x16v1 x16N x16C)]) /\
 (RUNA PG (Instr.alloc 122 true (.tuple #[])) w4 fun a9 w5 =>
 RUNU PG (storeVar 122 a9 (.agg #[(.int .u8 x16),(.slice x16v1 x16N x16C)])) w5 fun w6 =>
 RDI PG (loadVar 5 (a9.add 0)) .u8 w6 fun x18 =>
 IFB (x18 == kind)
 (RD PG (loadVar 122 a9) w6 fun v1 =>
 ∃ x21 : Int,∃ (x21v1 : Option Addr) (x21N x21C : Nat),v1 = (.agg #[(.int .u8 x21),(.slice x21v1 x21N x21C)]) /\
 (RUNU PG (storeVar 122 a6 (.agg #[(.int .u8 x21),(.slice x21v1 x21N x21C)])) w6 fun w7 =>
 LETI (IntKind.i64.wrap (n + 1)) fun n1 =>
 ∃ m2,m2 < m1 /\ I m2 n1 (IntKind.i64.wrap (x13 + 1)) w7))
 (∃ m3,m3 < m1 /\ I m3 n (IntKind.i64.wrap (x13 + 1)) w6)))
 (IFB (n != 1)
 (RD PG (Instr.build 122 #[]) w4 fun v2 =>
 ∃ x27 : Int,∃ (x27v1 : Option Addr) (x27N x27C : Nat),v2 = (.agg #[(.int .u8 x27),(.slice x27v1 x27N x27C)]) /\
 (RUNU PG (storeVar 122 a4 (.agg #[(.int .u8 x27),(.slice x27v1 x27N x27C)])) w4 fun w8 =>
 RD PG (loadVar 122 a4) w8 fun v4 =>
 ∃ r : Int,∃ (r1 : Option Addr) (rN rC : Nat),v4 = (.agg #[(.int .u8 r),(.slice r1 rN rC)]) /\
 (Q (.tuple #[(.agg #[(.int .u8 r),(.slice r1 rN rC)]),(.bool false)]) w8)))
 (RD PG (loadVar 122 a6) w4 fun v5 =>
 ∃ x28 : Int,∃ (x28v1 : Option Addr) (x28N x28C : Nat),v5 = (.agg #[(.int .u8 x28),(.slice x28v1 x28N x28C)]) /\
 (RUNU PG (storeVar 122 a4 (.agg #[(.int .u8 x28),(.slice x28v1 x28N x28C)])) w4 fun w9 =>
 RD PG (loadVar 122 a4) w9 fun v7 =>
 ∃ r2 : Int,∃ (r3 : Option Addr) (rN1 rC1 : Nat),v7 = (.agg #[(.int .u8 r2),(.slice r3 rN1 rC1)]) /\
 (Q (.tuple #[(.agg #[(.int .u8 r2),(.slice r3 rN1 rC1)]),(.bool true)]) w9))))))
theorem call42 {s : Int} {s1 : Int} {s2 : Int} {s3 : Int} {s4 : Int} {s5 : Option Addr} {sN sC : Nat} {s6 : Option Addr} {sN1 sC1 : Nat} {kind : Int} {w : World} {Q : QP} (h_ : N42 s s1 s2 s3 s4 s5 sN sC s6 sN1 sC1 kind w Q) : CALL PG 42 [(.agg #[(.int .u16 s),(.int .u16 s1),(.int .u32 s2),(.int .u32 s3),(.int .u8 s4),(.slice s5 sN sC),(.slice s6 sN1 sC1)]),(.int .u8 kind)] w Q:=calls_vq (.s .nil (.s .nil (.s .nil (.s (.s .nil (.u (.loop [(7,3),(13,3)] .nil))) .nil)))) tabOk Tryz.func42 (by kernel_rfl) h_
def N43 (o : Int) (o1 : Option Addr) (oN oC : Nat) (w : World) (Q : QP) : Prop :=
 RUNA PG (Instr.box 122 (.agg #[(.int .u8 o),(.slice o1 oN oC)])) w fun a1 w1 =>
 RUNA PG (Instr.alloc 128 true (.tuple #[])) w1 fun a2 w2 =>
 RDI PG (loadVar 5 (a1.add 0)) .u8 w2 fun x9 =>
 IFB (x9 != 1)
 (RD PG (Instr.build 128 #[]) w2 fun v =>
 ∃ x11 : Int,∃ x11v1 : Bool,∃ x11v2 : Int,v = (.agg #[(.int .u64 x11),(.bool x11v1),(.int .u64 x11v2)]) /\
 (RUNU PG (storeVar 128 a2 (.agg #[(.int .u64 x11),(.bool x11v1),(.int .u64 x11v2)])) w2 fun w3 =>
 RD PG (loadVar 128 a2) w3 fun v2 =>
 ∃ r : Int,∃ r1 : Bool,∃ r2 : Int,v2 = (.agg #[(.int .u64 r),(.bool r1),(.int .u64 r2)]) /\
 (Q (.tuple #[(.agg #[(.int .u64 r),(.bool r1),(.int .u64 r2)]),(.bool false)]) w3)))
 (RDL PG (loadVar 41 (a1.add 1)) w2 fun x14 x14N x14C =>
 RUNL PG (Instr.buildSlice 64 1 #[(0,(.int .i64 8))]) w2 fun x15 x15N x15C w4 =>
 CALL PG 82 [(.slice x14 x14N x14C),(.slice x15 x15N x15C)] w4 fun v3 w5 =>
 ∃ (x16 : Option Addr) (x16N x16C : Nat),∃ x16v1 : Bool,v3 = (.tuple #[(.slice x16 x16N x16C),(.bool x16v1)]) /\
 (LETB x16v1 fun okv =>
 IFB okv
 (IDX x16 x16N 0 fun a21 =>
 RDI PG (loadVar 25 (a21.add (Int.toNat 0 * 1))) .u64 w5 fun x22 =>
 RD PG (Instr.build 128 #[(0,(.int .u64 x22))]) w5 fun v4 =>
 ∃ x23 : Int,∃ x23v1 : Bool,∃ x23v2 : Int,v4 = (.agg #[(.int .u64 x23),(.bool x23v1),(.int .u64 x23v2)]) /\
 (RUNU PG (storeVar 128 a2 (.agg #[(.int .u64 x23),(.bool x23v1),(.int .u64 x23v2)])) w5 fun w6 =>
 RD PG (loadVar 128 a2) w6 fun v6 =>
 ∃ r3 : Int,∃ r4 : Bool,∃ r5 : Int,v6 = (.agg #[(.int .u64 r3),(.bool r4),(.int .u64 r5)]) /\
 (Q (.tuple #[(.agg #[(.int .u64 r3),(.bool r4),(.int .u64 r5)]),(.bool true)]) w6)))
 (RDL PG (loadVar 41 (a1.add 1)) w5 fun x26 x26N x26C =>
 RUNL PG (Instr.buildSlice 64 2 #[(0,(.int .i64 8)),(1,(.int .i64 8))]) w5 fun x27 x27N x27C w7 =>
 CALL PG 82 [(.slice x26 x26N x26C),(.slice x27 x27N x27C)] w7 fun v7 w8 =>
 ∃ (x28 : Option Addr) (x28N x28C : Nat),∃ x28v1 : Bool,v7 = (.tuple #[(.slice x28 x28N x28C),(.bool x28v1)]) /\
 (LETB x28v1 fun okv1 =>
 IFB (!okv1)
 (RD PG (Instr.build 128 #[]) w8 fun v8 =>
 ∃ x33 : Int,∃ x33v1 : Bool,∃ x33v2 : Int,v8 = (.agg #[(.int .u64 x33),(.bool x33v1),(.int .u64 x33v2)]) /\
 (RUNU PG (storeVar 128 a2 (.agg #[(.int .u64 x33),(.bool x33v1),(.int .u64 x33v2)])) w8 fun w9 =>
 RD PG (loadVar 128 a2) w9 fun v10 =>
 ∃ r6 : Int,∃ r7 : Bool,∃ r8 : Int,v10 = (.agg #[(.int .u64 r6),(.bool r7),(.int .u64 r8)]) /\
 (Q (.tuple #[(.agg #[(.int .u64 r6),(.bool r7),(.int .u64 r8)]),(.bool false)]) w9)))
 (IDX x28 x28N 0 fun a35 =>
 RDI PG (loadVar 25 (a35.add (Int.toNat 0 * 1))) .u64 (w8.drew) fun x36 =>
 IDX x28 x28N 1 fun a38 =>
 RDI PG (loadVar 25 (a38.add (Int.toNat 1 * 1))) .u64 (w8.drew) fun x39 =>
 RD PG (Instr.build 126 #[(0,(.int .u64 x39))]) (w8.drew) fun v11 =>
 ∃ x40 : Int,v11 = (.agg #[(.int .u64 x40)]) /\
 (RD PG (Instr.build 128 #[(0,(.int .u64 x36)),(1,(.bool true)),(2,(.agg #[(.int .u64 x40)]))]) (w8.drew) fun v12 =>
 ∃ x41 : Int,∃ x41v1 : Bool,∃ x41v2 : Int,v12 = (.agg #[(.int .u64 x41),(.bool x41v1),(.int .u64 x41v2)]) /\
 (RUNU PG (storeVar 128 a2 (.agg #[(.int .u64 x41),(.bool x41v1),(.int .u64 x41v2)])) (w8.drew) fun w10 =>
 RD PG (loadVar 128 a2) w10 fun v14 =>
 ∃ r9 : Int,∃ r10 : Bool,∃ r11 : Int,v14 = (.agg #[(.int .u64 r9),(.bool r10),(.int .u64 r11)]) /\
 (Q (.tuple #[(.agg #[(.int .u64 r9),(.bool r10),(.int .u64 r11)]),(.bool true)]) w10))))))))
theorem call43 {o : Int} {o1 : Option Addr} {oN oC : Nat} {w : World} {Q : QP} (h_ : N43 o o1 oN oC w Q) : CALL PG 43 [(.agg #[(.int .u8 o),(.slice o1 oN oC)])] w Q:=calls_vq .nil tabOk Tryz.func43 (by kernel_rfl) h_
def N82 (b : Option Addr) (bN bC : Nat) (sizes : Option Addr) (sizesN sizesC : Nat) (w : World) (Q : QP) : Prop :=
 CALL PG 80 [(.slice b bN bC),(.slice sizes sizesN sizesC)] w fun v w1 =>
 ∃ (x12 : Option Addr) (x12N x12C : Nat),∃ (x12v1 : Option Addr) (x12N1 x12C1 : Nat),∃ x12v2 : Bool,v = (.tuple #[(.slice x12 x12N x12C),(.slice x12v1 x12N1 x12C1),(.bool x12v2)]) /\
 (LETB x12v2 fun okv =>
 IFB (!okv)
 (Q (.tuple #[(.slice none 0 0),(.bool false)]) w1)
 (IFB (decide ((x12N1 : Int) > 0))
 (Q (.tuple #[(.slice none 0 0),(.bool false)]) w1)
 (Q (.tuple #[(.slice x12 x12N x12C),(.bool true)]) w1)))
theorem call82 {b : Option Addr} {bN bC : Nat} {sizes : Option Addr} {sizesN sizesC : Nat} {w : World} {Q : QP} (h_ : N82 b bN bC sizes sizesN sizesC w Q) : CALL PG 82 [(.slice b bN bC),(.slice sizes sizesN sizesC)] w Q:=calls_vq .nil tabOk Tryz.func82 (by kernel_rfl) h_
end Go.Br
/- Options are read: the only one of a kind,a key. -/
set_option linter.unusedVariables false
set_option linter.unusedSimpArgs false
set_option linter.unnecessarySimpa false
namespace Go.Br
open Go
instance biOptReada : Bld PG (Instr.build 122 #[]) (.agg #[.int .u8 0,.slice none 0 0]):=⟨fun w => by kernel_rfl⟩
instance biOptReadb : Zro PG 122 2 32 (.agg #[.int .u8 0,.slice none 0 0]):=⟨tiOf (by kernel_rfl)⟩
instance biOptReadc : Bld PG (Instr.build 128 #[]) (.agg #[.int .u64 0,.bool false,.int .u64 0]):=⟨fun w => by kernel_rfl⟩
instance biOptReadd (x0 : Int) : Bld PG (Instr.build 128 #[(0,.int .u64 x0)]) (.agg #[.int .u64 x0,.bool false,.int .u64 0]):=⟨fun w => by kernel_rfl⟩
instance biOptReade (x0 : Int) : Bld PG (Instr.build 126 #[(0,.int .u64 x0)]) (.agg #[.int .u64 x0]):=⟨fun w => by kernel_rfl⟩
instance biOptReadf (x0 : Int) (x1 : Bool) (x2 : Int) : Bld PG (Instr.build 128 #[(0,.int .u64 x0),(1,.bool x1),(2,.agg #[.int .u64 x2])]) (.agg #[.int .u64 x0,.bool x1,.int .u64 x2]):=⟨fun w => by kernel_rfl⟩
instance biOptReadg : Zro PG 128 3 24 (.agg #[.int .u64 0,.bool false,.int .u64 0]):=⟨tiOf (by kernel_rfl)⟩
attribute [local irreducible] Addr.add RD RDS RUN RUNU NILC LETB CALL CALLX CALLV
def opx0 : Opx:=⟨0,none,0,[]⟩
def ofKind (kind : Int) (os : List Opx) : List Opx:=os.filter fun o => o.kind == kind
section
variable {c : Ctx} {w : World} {L R : List SA}
theorem one_ok (h : St c w L) {s : Sg} (hs : SgIn L s) (hl : s.os.length <= 1000) {kind : Int} {Q : Value -> World -> Prop}
  (hone : ∀ o w',ofKind kind s.os = [o] -> St c w' L -> Q (.tuple #[opxv o,.bool true]) w') (hno : (ofKind kind s.os).length ≠ 1 -> ∀ w',St c w' L -> Q (.tuple #[opxv opx0,.bool false]) w') : CALL PG 42 [sgv s,.int .u8 kind] w Q:=by
 refine call42 ?_
 unfold N42
 refine h.box (vs:=sgc s) fun q2 w' h => ?_
 refine h.allocZ fun q4 w' h => ?_
 refine h.allocZ fun q6 w' h => ?_
 refine h.rdL (B:=q2) 5 ?_
 have h : St c w' (blk q6 122 (opx opx0) :: blk q4 122 (opx opx0) :: blk q2 118 (sgc s) :: L):=h
 refine ⟨fun m n x w => ∃ (j : Nat) (o : Opx),x = j /\ m = s.os.length - j /\ j <= s.os.length /\ n = ((ofKind kind (s.os.take j)).length : Int) /\ (ofKind kind (s.os.take j) = [] ∨ ∃ r,ofKind kind (s.os.take j) = r ++ [o]) /\ St c w (blk q6 122 (opx o) :: blk q4 122 (opx opx0) :: blk q2 118 (sgc s) :: L),⟨_,0,opx0,rfl,rfl,Nat.zero_le _,rfl,.inl rfl,h⟩,?_⟩
 clear h
 rintro m n x w' ⟨j,o,rfl,rfl,hj,rfl,hlast,h⟩
 have hmj : (ofKind kind (s.os.take j)).length <= 1000:=by
  have:=List.length_filter_le (fun o : Opx => o.kind == kind) (s.os.take j)
  rw [List.length_take] at this
  unfold ofKind
  omega
 by_cases hjl : j < s.os.length
 rotate_left
 ·obtain rfl : j = s.os.length:=by omega
  rw [List.take_length] at hlast ⊢
  refine ifdf (by omega) ?_
  refine ifn (fun hne => ?_) fun he => ?_
  ·refine RD.bld ?_
   (repeat apply exi)
   apply exr
   refine h.stG (B:=q4) fun w' h => ?_
   refine h.rdG (B:=q4) ?_
   (repeat apply exi)
   apply exr
   exact hno (fun e => hne (by omega)) _ (h.sub ((Sub.same _).more.more.more))
  ·have hx : ofKind kind s.os = [o]:=by
    rcases hlast with e | ⟨r,e⟩
    ·rw [e] at he; simp at he
    ·rw [e] at he ⊢
     have : r = []:=List.length_eq_zero_iff.1 (by simp at he; omega)
     rw [this]; rfl
   refine h.rdG (B:=q6) ?_
   (repeat apply exi)
   apply exr
   refine h.stG (B:=q4) fun w' h => ?_
   refine h.rdG (B:=q4) ?_
   (repeat apply exi)
   apply exr
   exact hone o _ hx (h.sub ((Sub.same _).more.more.more))
 obtain ⟨y,hy⟩ : ∃ y,s.os[j]? = some y:=⟨_,List.getElem?_eq_getElem hjl⟩
 have e3 : IntKind.i64.wrap ((j : Int) + 1) = ((j + 1 : Nat) : Int):=by rw [wrap_i64 (by omega) (by omega)]; rfl
 have etk : ofKind kind (s.os.take (j + 1)) = ofKind kind (s.os.take j) ++ (if y.kind == kind then [y] else []):=by
  rw [List.take_add_one,hy,ofKind,List.filter_append]
  show _ ++ List.filter _ [y] = _
  rw [List.filter_cons]
  rfl
 have hr:=hs.opts
 refine ifdt (by omega) ?_
 refine h.ix (z:=1) hr.more.more.more hy (fun a ha => ?_) (by omega)
 have hr1:=hr
 rw [ha] at hr1
 refine h.rdEG hr1.more.more.more hy ?_
 (repeat apply exi)
 apply exr
 refine h.allocZ fun q9 w' h => ?_
 refine h.stG (B:=q9) fun w' h => ?_
 refine h.rdI (B:=q9) 0 ?_
 refine ifq (fun hk1 => ?_) fun hk1 => ?_
 ·refine h.rdG (B:=q9) ?_
  (repeat apply exi)
  apply exr
  refine h.stG (B:=q6) fun w' h => ?_
  refine leti (y:=(((ofKind kind (s.os.take (j + 1))).length : Nat) : Int)) ?_ ⟨s.os.length - (j + 1),by omega,j + 1,y,e3,rfl,by omega,rfl,.inr ⟨ofKind kind (s.os.take j),?_⟩,h.sub (.cons .head (.cons (.tail .head) (.cons (.tail .head) ((Sub.same _).more))))⟩
  ·rw [etk,if_pos (by simp [hk1]),wrap_i64 (by omega) (by omega)]; simp
  ·rw [etk,if_pos (by simp [hk1])]
 ·have ee : ofKind kind (s.os.take (j + 1)) = ofKind kind (s.os.take j):=by rw [etk,if_neg (by simp [hk1])]; simp
  exact ⟨s.os.length - (j + 1),by omega,j + 1,o,e3,rfl,by omega,by rw [ee],by rw [ee]; exact hlast,h.sub (.cons (.tail .head) (.cons (.tail .head) (.cons (.tail .head) ((Sub.same _).more))))⟩
def gotS (Sz : List Nat) (bs : List UInt8) : Option (List Nat):=match getS Sz bs with
 | some (l,[]) => some l
 | _ => none
theorem all_ok (h : St c w L) {A B : Option Addr} {n C m d : Nat} {bs : List UInt8} (hr : RdIn L A (bvs bs)) (hn : bs.length = n) (hC : n <= C) (hb : n <= 1000000) {Sz : List Nat} (hrs : RdIn L B (Sz.flatMap nv)) (hm : Sz.length = m) (hm2 : m <= 1000) (hz : ∀ x ∈ Sz,x <= 1000) {Q : Value -> World -> Prop}
    (hno : gotS Sz bs = none -> ∀ w',St c w' L -> Q (.tuple #[.slice none 0 0,.bool false]) w')
    (hyes : ∀ l,gotS Sz bs = some l -> ∀ w' O d1,St c w' (own 25 1 O l.length d1 (l.flatMap uv) :: L) -> Q (.tuple #[.slice O l.length d1,.bool true]) w') :
    CALL PG 82 [.slice A n C,.slice B m d] w Q:=by
  refine call82 ?_
  unfold N82
  refine get_ok h hr hn hC hb hrs hm hm2 hz (fun e w' h => ?_) fun l rest e w' O d1 O2 d2 h _ => ?_
  · (repeat apply exi)
    apply exr
    exact letb rfl (ift rfl (hno (by unfold gotS; rw [e]) _ h))
  · (repeat apply exi)
    apply exr
    refine letb rfl (iff_ rfl ?_)
    cases rest with
    | nil => exact ifdf (by simp) (hyes l (by unfold gotS; rw [e]) _ O d1 h.drop)
    | cons x r => exact ifdt (by simp) (hno (by unfold gotS; rw [e]) _ h.drop.drop)
theorem gotS8 {bs : List UInt8} : gotS [8] bs = if bs.length = 8 then some [beN bs] else none:=by
 unfold gotS
 simp only [getS]
 by_cases h : bs.length < 8
 ·rw [if_pos (by omega),if_neg (by omega)]
 ·rw [if_neg (by omega)]
  simp only [Option.map_some]
  by_cases h8 : bs.length = 8
  ·rw [if_pos h8,List.drop_eq_nil_of_le (by omega),List.take_of_length_le (by omega)]
  ·rw [if_neg h8]
   cases hd : bs.drop 8 with
   | nil => have:=congrArg List.length hd; simp at this; omega
   | cons x r => rfl
theorem gotS16 {bs : List UInt8} : gotS [8,8] bs = if bs.length = 16 then some [beN (bs.take 8),beN (bs.drop 8)] else none:=by
 unfold gotS
 simp only [getS]
 by_cases h : bs.length < 8
 ·rw [if_pos (by omega),if_neg (by omega)]
 ·rw [if_neg (by omega)]
  by_cases h2 : (bs.drop 8).length < 8
  ·rw [if_pos (.inr (.inr h2)),if_neg (by simp at h2; omega)]
   rfl
  ·rw [if_neg (by omega)]
   simp only [Option.map_some]
   rw [List.length_drop] at h2
   by_cases h16 : bs.length = 16
   ·rw [if_pos h16,show List.drop 8 (List.drop 8 bs) = [] from List.drop_eq_nil_of_le (by rw [List.length_drop]; omega),show List.take 8 (List.drop 8 bs) = List.drop 8 bs from List.take_of_length_le (by rw [List.length_drop]; omega)]
   ·rw [if_neg h16]
    cases hd : (bs.drop 8).drop 8 with
    | nil => have:=congrArg List.length hd; simp at this; omega
    | cons x r => rfl
theorem pkey_ok (h : St c w L) {o : Opx} (hr : RdIn L o.body (bvs o.bodys)) (hC : o.bodys.length <= o.bodyC) (hb : o.bodys.length <= 1000000) {Q : Value -> World -> Prop}
  (h8 : o.kind = 1 -> o.bodys.length = 8 -> ∀ w',St c w' L -> Q (.tuple #[.agg #[.int .u64 (beN o.bodys : Int),.bool false,.int .u64 0],.bool true]) w')
  (h16 : o.kind = 1 -> o.bodys.length = 16 -> ∀ w',St c w' L -> Q (.tuple #[.agg #[.int .u64 (beN (o.bodys.take 8) : Int),.bool true,.int .u64 (beN (o.bodys.drop 8) : Int)],.bool true]) w')
  (hno : (o.kind ≠ 1 ∨ o.bodys.length ≠ 8 /\ o.bodys.length ≠ 16) -> ∀ w',St c w' L -> Q (.tuple #[.agg #[.int .u64 0,.bool false,.int .u64 0],.bool false]) w') : CALL PG 43 [opxv o] w Q:=by
 refine call43 ?_
 unfold N43
 refine h.box (vs:=opx o) fun q1 w' h => ?_
 refine h.allocZ fun q2 w' h => ?_
 refine h.rdI (B:=q1) 0 ?_
 refine ifn (fun hk => ?_) fun hk => ?_
 ·refine RD.bld ?_
  (repeat apply exi)
  apply exr
  refine h.stG (B:=q2) fun w' h => ?_
  refine h.rdG (B:=q2) ?_
  (repeat apply exi)
  apply exr
  exact hno (.inl hk) _ h.drop.drop
 refine h.rdL (B:=q1) 1 ?_
 refine h.lit (n:=1) 3 1 (([8] : List Nat).flatMap nv) fun q3 w' h => ?_
 refine all_ok h (Sz:=[8]) hr.more.more.more rfl hC hb (RdIn.own .head) rfl (by decide) (by simp) (fun e w' h => ?_) fun l e w' O d1 h => ?_
 rotate_left
 ·rw [gotS8] at e
  split at e
  ·rename_i hl
   obtain rfl : [beN o.bodys] = l:=Option.some.inj e
   (repeat apply exi)
   apply exr
   refine letb rfl (ift rfl ?_)
   have rd : RdIn (own 25 1 O 1 d1 (([beN o.bodys] : List Nat).flatMap uv) :: own 3 1 (some ⟨q3,0,none⟩) 1 1 (([8] : List Nat).flatMap nv) :: blk q2 128 [.int .u64 0,.bool false,.int .u64 0] :: blk q1 122 (opx o) :: L) O (([beN o.bodys] : List Nat).flatMap uv):=RdIn.own .head
   refine h.ix (z:=0) (i:=0) rd rfl (fun a ha => ?_) (by show 0 < 1; decide)
   have rd2:=rd
   subst ha
   refine h.rdWI (i:=0) rd2 rfl ?_
   refine RD.bld ?_
   (repeat apply exi)
   apply exr
   refine h.stG (B:=q2) (fun w' h => ?_) (hl:=by simp)
   refine h.rdG (B:=q2) ?_
   (repeat apply exi)
   apply exr
   exact h8 hk hl _ (h.sub ((Sub.same _).more.more.more.more))
  ·cases e
 ·have hl8 : o.bodys.length ≠ 8:=fun hl => by rw [gotS8,if_pos hl] at e; cases e
  (repeat apply exi)
  apply exr
  refine letb rfl (iff_ rfl ?_)
  refine h.rdL (B:=q1) 1 ?_
  refine h.lit (n:=2) 3 1 (([8,8] : List Nat).flatMap nv) fun q4 w' h => ?_
  refine all_ok h (Sz:=[8,8]) hr.more.more.more.more rfl hC hb (RdIn.own .head) rfl (by decide) (by simp) (fun e w' h => ?_) fun l e w' O d1 h => ?_
  ·have hl16 : o.bodys.length ≠ 16:=fun hl => by rw [gotS16,if_pos hl] at e; cases e
   (repeat apply exi)
   apply exr
   refine letb rfl (ift rfl ?_)
   refine RD.bld ?_
   (repeat apply exi)
   apply exr
   refine h.stG (B:=q2) fun w' h => ?_
   refine h.rdG (B:=q2) ?_
   (repeat apply exi)
   apply exr
   exact hno (.inr ⟨hl8,hl16⟩) _ (h.sub ((Sub.same _).more.more.more.more))
  ·rw [gotS16] at e
   split at e
   ·rename_i hl
    obtain rfl : [beN (o.bodys.take 8),beN (o.bodys.drop 8)] = l:=Option.some.inj e
    (repeat apply exi)
    apply exr
    refine letb rfl (iff_ rfl ?_)
    have h:=h.drew
    have rd : RdIn (own 25 1 O 2 d1 (([beN (o.bodys.take 8),beN (o.bodys.drop 8)] : List Nat).flatMap uv) :: own 3 1 (some ⟨q4,0,none⟩) 2 2 (([8,8] : List Nat).flatMap nv) :: own 3 1 (some ⟨q3,0,none⟩) 1 1 (([8] : List Nat).flatMap nv) :: blk q2 128 [.int .u64 0,.bool false,.int .u64 0] :: blk q1 122 (opx o) :: L) O (([beN (o.bodys.take 8),beN (o.bodys.drop 8)] : List Nat).flatMap uv):=RdIn.own .head
    refine h.ix (z:=0) (i:=0) rd rfl (fun a ha => ?_) (by show 0 < 2; decide)
    subst ha
    refine h.rdWI (i:=0) rd rfl ?_
    refine h.ix (z:=0) (i:=1) rd rfl (fun a ha => ?_) (by show 1 < 2; decide)
    injection ha with ha
    subst ha
    refine h.rdWI (i:=1) rd rfl ?_
    refine RD.bld ?_
    (repeat apply exi)
    apply exr
    refine RD.bld ?_
    (repeat apply exi)
    apply exr
    refine h.stG (B:=q2) (fun w' h => ?_) (hl:=by simp)
    refine h.rdG (B:=q2) ?_
    (repeat apply exi)
    apply exr
    exact h16 hk hl _ (h.sub ((Sub.same _).more.more.more.more.more))
   ·cases e
end
end Go.Br
