/- ConnNew, ConnAsk, ConnAsk2 -/
import Derived.Test.YtmglifmopjedbaaGreatBrSeat
import Derived.Test.YtmglifmopjedbaaGreatJHostLaw
import Derived.Test.YtmglifmopjedbaaGreatJParsePure
import Derived.Test.YtmglifmopjedbaaGreatSip
import Derived.Test.YtmglifmopjedbaaGreatJSegRound
/- What the code of some functions says,as the core reads it; each reading is checked by the kernel. -/
set_option linter.unusedVariables false
set_option maxRecDepth 100000
namespace Go.Br
open Go Go.Proofs
def N37 (c : Int) (c1 : Int) (c2 : Int) (c3 : Int) (c4 : Int) (c5 : Int) (c6 : Int) (c7 : Int) (c8 : Int) (c9 : Int) (c10 : Int) (c11 : Int) (c12 : Int) (c13 : Int) (c14 : Int) (role : Int) (mine : Int) (first : Int) (first1 : Int) (first2 : Int) (w : World) (Q : QP) : Prop :=
 RUNA PG (Instr.box 24 (.agg #[(.int .i64 c),(.int .i64 c1),(.int .i64 c2),(.int .i64 c3),(.int .i64 c4),(.int .i64 c5),(.int .i64 c6),(.int .i64 c7),(.int .i64 c8),(.int .i64 c9),(.int .i64 c10),(.int .i64 c11),(.int .i64 c12),(.int .i64 c13),(.int .i64 c14)])) w fun a4 w1 =>
 RUNA PG (Instr.box 51 (.agg #[(.int .i64 first),(.int .u16 first1),(.int .u16 first2)])) w1 fun a7 w2 =>
 RD PG (loadVar 24 a4) w2 fun v =>
 ∃ x10 : Int,∃ x10v1 : Int,∃ x10v2 : Int,∃ x10v3 : Int,∃ x10v4 : Int,∃ x10v5 : Int,∃ x10v6 : Int,∃ x10v7 : Int,∃ x10v8 : Int,∃ x10v9 : Int,∃ x10v10 : Int,∃ x10v11 : Int,∃ x10v12 : Int,∃ x10v13 : Int,∃ x10v14 : Int,v = (.agg #[(.int .i64 x10),(.int .i64 x10v1),(.int .i64 x10v2),(.int .i64 x10v3),(.int .i64 x10v4),(.int .i64 x10v5),(.int .i64 x10v6),(.int .i64 x10v7),(.int .i64 x10v8),(.int .i64 x10v9),(.int .i64 x10v10),(.int .i64 x10v11),(.int .i64 x10v12),(.int .i64 x10v13),(.int .i64 x10v14)]) /\
 (RD PG (loadVar 51 a7) w2 fun v1 =>
 ∃ x13 : Int,∃ x13v1 : Int,∃ x13v2 : Int,v1 = (.agg #[(.int .i64 x13),(.int .u16 x13v1),(.int .u16 x13v2)]) /\
 (RDI PG (loadVar 3 (a7.add 0)) .i64 w2 fun x15 =>
 RUNL PG (Instr.buildSlice 64 1 #[(0,(.int .i64 x15))]) w2 fun x16 x16N x16C w3 =>
 RD PG (Instr.build 67 #[(1,(.agg #[(.int .i64 x10),(.int .i64 x10v1),(.int .i64 x10v2),(.int .i64 x10v3),(.int .i64 x10v4),(.int .i64 x10v5),(.int .i64 x10v6),(.int .i64 x10v7),(.int .i64 x10v8),(.int .i64 x10v9),(.int .i64 x10v10),(.int .i64 x10v11),(.int .i64 x10v12),(.int .i64 x10v13),(.int .i64 x10v14)])),(2,(.int .i64 role)),(3,(.int .i64 1)),(5,(.int .u64 mine)),(8,(.agg #[(.int .i64 x13),(.int .u16 x13v1),(.int .u16 x13v2)])),(10,(.int .i64 1)),(15,(.slice x16 x16N x16C))]) w3 fun v2 =>
 ∃ x17 : Value,v2 = x17 /\
 (RUNA PG (Instr.box 67 x17) w3 fun a18 w4 =>
 RDI PG (loadVar 3 (a4.add 4)) .i64 w4 fun x22 =>
 CALL PG 68 [(.int .i64 x22)] w4 fun v3 w5 =>
 ∃ x23 : Option Addr,∃ x23v1 : Int,v3 = (.tuple #[(.pointer x23),(.int .i64 x23v1)]) /\
 (RUNU PG (storeVar 60 (a18.add 35) (.pointer x23)) w5 fun w6 =>
 RDI PG (loadVar 3 (a4.add 4)) .i64 w6 fun x31 =>
 RDI PG (loadVar 3 (a4.add 5)) .i64 w6 fun x33 =>
 CALL PG 69 [(.int .i64 x31),(.int .i64 x33)] w6 fun v4 w7 =>
 ∃ x34 : Option Addr,∃ x34v1 : Int,v4 = (.tuple #[(.pointer x34),(.int .i64 x34v1)]) /\
 (RUNU PG (storeVar 61 (a18.add 36) (.pointer x34)) w7 fun w8 =>
 RDI PG (loadVar 3 (a4.add 5)) .i64 w8 fun x41 =>
 CALL PG 70 [(.int .i64 x41)] w8 fun v5 w9 =>
 ∃ x42 : Option Addr,v5 = (.pointer x42) /\
 (RUNU PG (storeVar 62 (a18.add 37) (.pointer x42)) w9 fun w10 =>
 RDI PG (loadVar 3 (a4.add 6)) .i64 w10 fun x47 =>
 RDI PG (loadVar 3 (a4.add 7)) .i64 w10 fun x49 =>
 CALL PG 71 [(.int .i64 x47),(.int .i64 x49)] w10 fun v6 w11 =>
 ∃ x50 : Option Addr,v6 = (.pointer x50) /\
 (RUNU PG (storeVar 63 (a18.add 38) (.pointer x50)) w11 fun w12 =>
 Q (.pointer (some a18)) w12)))))))
theorem call37 {c : Int} {c1 : Int} {c2 : Int} {c3 : Int} {c4 : Int} {c5 : Int} {c6 : Int} {c7 : Int} {c8 : Int} {c9 : Int} {c10 : Int} {c11 : Int} {c12 : Int} {c13 : Int} {c14 : Int} {role : Int} {mine : Int} {first : Int} {first1 : Int} {first2 : Int} {w : World} {Q : QP} (h_ : N37 c c1 c2 c3 c4 c5 c6 c7 c8 c9 c10 c11 c12 c13 c14 role mine first first1 first2 w Q) : CALL PG 37 [(.agg #[(.int .i64 c),(.int .i64 c1),(.int .i64 c2),(.int .i64 c3),(.int .i64 c4),(.int .i64 c5),(.int .i64 c6),(.int .i64 c7),(.int .i64 c8),(.int .i64 c9),(.int .i64 c10),(.int .i64 c11),(.int .i64 c12),(.int .i64 c13),(.int .i64 c14)]),(.int .i64 role),(.int .u64 mine),(.agg #[(.int .i64 first),(.int .u16 first1),(.int .u16 first2)])] w Q:=calls_vq .nil tabOk Tryz.func37 (by kernel_rfl) h_
def N38 (c : Int) (c1 : Int) (c2 : Int) (c3 : Int) (c4 : Int) (c5 : Int) (c6 : Int) (c7 : Int) (c8 : Int) (c9 : Int) (c10 : Int) (c11 : Int) (c12 : Int) (c13 : Int) (c14 : Int) (id : Int) (e : Int) (e1 : Int) (e2 : Int) (first : Int) (w : World) (Q : QP) : Prop :=
 RUNA PG (Instr.box 24 (.agg #[(.int .i64 c),(.int .i64 c1),(.int .i64 c2),(.int .i64 c3),(.int .i64 c4),(.int .i64 c5),(.int .i64 c6),(.int .i64 c7),(.int .i64 c8),(.int .i64 c9),(.int .i64 c10),(.int .i64 c11),(.int .i64 c12),(.int .i64 c13),(.int .i64 c14)])) w fun a4 w1 =>
 RUNA PG (Instr.box 51 (.agg #[(.int .i64 e),(.int .u16 e1),(.int .u16 e2)])) w1 fun a6 w2 =>
 RDI PG (loadVar 3 (a6.add 0)) .i64 w2 fun x12 =>
 RDI PG (loadVar 49 (a6.add 1)) .u16 w2 fun x14 =>
 RDI PG (loadVar 49 (a6.add 2)) .u16 w2 fun x16 =>
 RD PG (Instr.build 111 #[(2,(.int .i64 id)),(3,(.int .i64 x12)),(4,(.int .u16 x14)),(5,(.int .u16 x16))]) w2 fun v =>
 ∃ x17 : Value,v = x17 /\
 (RUNA PG (Instr.box 111 x17) w2 fun a18 w3 =>
 RDI PG (loadVar 3 (a4.add 8)) .i64 w3 fun x21 =>
 CALL PG 72 [(.int .i64 x21)] w3 fun v1 w4 =>
 ∃ x22 : Option Addr,v1 = (.pointer x22) /\
 (RUNU PG (storeVar 107 (a18.add 17) (.pointer x22)) w4 fun w5 =>
 RDI PG (loadVar 3 (a4.add 13)) .i64 w5 fun x27 =>
 CALL PG 73 [(.int .i64 x27)] w5 fun v2 w6 =>
 ∃ x28 : Option Addr,v2 = (.pointer x28) /\
 (RUNU PG (storeVar 108 (a18.add 18) (.pointer x28)) w6 fun w7 =>
 RDI PG (loadVar 3 (a4.add 11)) .i64 w7 fun x33 =>
 RDI PG (loadVar 3 (a4.add 12)) .i64 w7 fun x35 =>
 CALL PG 74 [(.int .i64 x33),(.int .i64 x35)] w7 fun v3 w8 =>
 ∃ x36 : Option Addr,v3 = (.pointer x36) /\
 (RUNU PG (storeVar 109 (a18.add 19) (.pointer x36)) w8 fun w9 =>
 RUNU PG (storeVar 39 ((a18.add 0).add 0) (.int .i64 1)) w9 fun w10 =>
 RUNU PG (storeVar 26 ((a18.add 0).add 1) (.int .u32 first)) w10 fun w11 =>
 RUNU PG (storeVar 26 ((a18.add 0).add 2) (.int .u32 first)) w11 fun w12 =>
 RUNU PG (storeVar 26 ((a18.add 0).add 3) (.int .u32 (IntKind.u32.wrap (first + 1)))) w12 fun w13 =>
 Q (.pointer (some a18)) w13))))
theorem call38 {c : Int} {c1 : Int} {c2 : Int} {c3 : Int} {c4 : Int} {c5 : Int} {c6 : Int} {c7 : Int} {c8 : Int} {c9 : Int} {c10 : Int} {c11 : Int} {c12 : Int} {c13 : Int} {c14 : Int} {id : Int} {e : Int} {e1 : Int} {e2 : Int} {first : Int} {w : World} {Q : QP} (h_ : N38 c c1 c2 c3 c4 c5 c6 c7 c8 c9 c10 c11 c12 c13 c14 id e e1 e2 first w Q) : CALL PG 38 [(.agg #[(.int .i64 c),(.int .i64 c1),(.int .i64 c2),(.int .i64 c3),(.int .i64 c4),(.int .i64 c5),(.int .i64 c6),(.int .i64 c7),(.int .i64 c8),(.int .i64 c9),(.int .i64 c10),(.int .i64 c11),(.int .i64 c12),(.int .i64 c13),(.int .i64 c14)]),(.int .i64 id),(.agg #[(.int .i64 e),(.int .u16 e1),(.int .u16 e2)]),(.int .u32 first)] w Q:=calls_vq .nil tabOk Tryz.func38 (by kernel_rfl) h_
def N68 (sizev : Int) (w : World) (Q : QP) : Prop :=
 CALL PG 122 [(.int .i64 sizev)] w fun v w1 =>
 ∃ x8 : Option Addr,∃ x8v1 : Int,v = (.tuple #[(.pointer x8),(.int .i64 x8v1)]) /\
 (LETI x8v1 fun e =>
 IFB (e != 0)
 (LETI e fun x3 =>
 Q (.tuple #[(.pointer none),(.int .i64 x3)]) w1)
 (RD PG (Instr.build 92 #[(0,(.pointer x8))]) w1 fun v1 =>
 ∃ x15 : Option Addr,∃ x15v1 : Int,∃ x15v2 : Bool,∃ x15v3 : Bool,v1 = (.agg #[(.pointer x15),(.int .u64 x15v1),(.bool x15v2),(.bool x15v3)]) /\
 (RUNA PG (Instr.box 92 (.agg #[(.pointer x15),(.int .u64 x15v1),(.bool x15v2),(.bool x15v3)])) w1 fun a16 w2 =>
 Q (.tuple #[(.pointer (some a16)),(.int .i64 0)]) w2)))
theorem call68 {sizev : Int} {w : World} {Q : QP} (h_ : N68 sizev w Q) : CALL PG 68 [(.int .i64 sizev)] w Q:=calls_vq .nil tabOk Tryz.func68 (by kernel_rfl) h_
def N69 (sizev : Int) (pieces : Int) (w : World) (Q : QP) : Prop :=
 CALL PG 122 [(.int .i64 sizev)] w fun v w1 =>
 ∃ x10 : Option Addr,∃ x10v1 : Int,v = (.tuple #[(.pointer x10),(.int .i64 x10v1)]) /\
 (LETI x10v1 fun e =>
 IFB (e != 0)
 (LETI e fun x5 =>
 Q (.tuple #[(.pointer none),(.int .i64 x5)]) w1)
 (CALL PG 123 [(.int .i64 pieces)] w1 fun v1 w2 =>
 ∃ x18 : Option Addr,v1 = (.pointer x18) /\
 (RD PG (Instr.build 95 #[(0,(.pointer x10)),(1,(.pointer x18))]) w2 fun v2 =>
 ∃ x19 : Option Addr,∃ x19v1 : Option Addr,∃ x19v2 : Int,∃ x19v3 : Int,∃ x19v4 : Bool,v2 = (.agg #[(.pointer x19),(.pointer x19v1),(.int .u64 x19v2),(.int .u64 x19v3),(.bool x19v4)]) /\
 (RUNA PG (Instr.box 95 (.agg #[(.pointer x19),(.pointer x19v1),(.int .u64 x19v2),(.int .u64 x19v3),(.bool x19v4)])) w2 fun a20 w3 =>
 Q (.tuple #[(.pointer (some a20)),(.int .i64 0)]) w3))))
theorem call69 {sizev : Int} {pieces : Int} {w : World} {Q : QP} (h_ : N69 sizev pieces w Q) : CALL PG 69 [(.int .i64 sizev),(.int .i64 pieces)] w Q:=calls_vq .nil tabOk Tryz.func69 (by kernel_rfl) h_
def N70 (most : Int) (w : World) (Q : QP) : Prop :=
 RD PG (Instr.build 155 #[(0,(.int .i64 (minN (maxN most 1) 64)))]) w fun v =>
 ∃ x6 : Int,∃ (x6v1 : Option Addr) (x6N x6C : Nat),v = (.agg #[(.int .i64 x6),(.slice x6v1 x6N x6C)]) /\
 (RUNA PG (Instr.box 155 (.agg #[(.int .i64 x6),(.slice x6v1 x6N x6C)])) w fun a7 w1 =>
 Q (.pointer (some a7)) w1)
theorem call70 {most : Int} {w : World} {Q : QP} (h_ : N70 most w Q) : CALL PG 70 [(.int .i64 most)] w Q:=calls_vq .nil tabOk Tryz.func70 (by kernel_rfl) h_
def N71 (most : Int) (paths : Int) (w : World) (Q : QP) : Prop :=
 CALL PG 74 [(.int .i64 64),(.int .i64 1)] w fun v w1 =>
 ∃ x5 : Option Addr,v = (.pointer x5) /\
 (RD PG (Instr.build 149 #[(0,(.pointer x5)),(1,(.int .i64 (minN (maxN most 0) 8))),(2,(.int .i64 (minN (maxN paths 1) 4)))]) w1 fun v1 =>
 ∃ x12 : Option Addr,∃ x12v1 : Int,∃ x12v2 : Int,∃ (x12v3 : Option Addr) (x12N x12C : Nat),v1 = (.agg #[(.pointer x12),(.int .i64 x12v1),(.int .i64 x12v2),(.slice x12v3 x12N x12C)]) /\
 (RUNA PG (Instr.box 149 (.agg #[(.pointer x12),(.int .i64 x12v1),(.int .i64 x12v2),(.slice x12v3 x12N x12C)])) w1 fun a13 w2 =>
 Q (.pointer (some a13)) w2))
theorem call71 {most : Int} {paths : Int} {w : World} {Q : QP} (h_ : N71 most paths w Q) : CALL PG 71 [(.int .i64 most),(.int .i64 paths)] w Q:=calls_vq .nil tabOk Tryz.func71 (by kernel_rfl) h_
def N72 (mss : Int) (w : World) (Q : QP) : Prop :=
 LETI (minN (maxN mss 1) 1024) fun mss1 =>
 RD PG (Instr.build 218 #[(0,(.int .i64 mss1)),(1,(.int .i64 (IntKind.i64.wrap (4 * mss1)))),(2,(.int .i64 (IntKind.i64.wrap (64 * mss1))))]) w fun v =>
 ∃ x11 : Int,∃ x11v1 : Int,∃ x11v2 : Int,∃ x11v3 : Int,∃ x11v4 : Int,v = (.agg #[(.int .i64 x11),(.int .i64 x11v1),(.int .i64 x11v2),(.int .i64 x11v3),(.int .i64 x11v4)]) /\
 (RUNA PG (Instr.box 218 (.agg #[(.int .i64 x11),(.int .i64 x11v1),(.int .i64 x11v2),(.int .i64 x11v3),(.int .i64 x11v4)])) w fun a12 w1 =>
 Q (.pointer (some a12)) w1)
theorem call72 {mss : Int} {w : World} {Q : QP} (h_ : N72 mss w Q) : CALL PG 72 [(.int .i64 mss)] w Q:=calls_vq .nil tabOk Tryz.func72 (by kernel_rfl) h_
def N73 (limit : Int) (w : World) (Q : QP) : Prop :=
 RD PG (Instr.build 220 #[(1,(.int .i64 (minN (maxN limit 1) 4096)))]) w fun v =>
 ∃ x6 : Int,∃ x6v1 : Int,∃ x6v2 : Int,v = (.agg #[(.int .i64 x6),(.int .i64 x6v1),(.int .i64 x6v2)]) /\
 (RUNA PG (Instr.box 220 (.agg #[(.int .i64 x6),(.int .i64 x6v1),(.int .i64 x6v2)])) w fun a7 w1 =>
 Q (.pointer (some a7)) w1)
theorem call73 {limit : Int} {w : World} {Q : QP} (h_ : N73 limit w Q) : CALL PG 73 [(.int .i64 limit)] w Q:=calls_vq .nil tabOk Tryz.func73 (by kernel_rfl) h_
def N74 (burst : Int) (rate : Int) (w : World) (Q : QP) : Prop :=
 LETI (minN (maxN burst 0) 4096) fun burst1 =>
 LETI (minN (maxN rate 0) 4096) fun rate1 =>
 RD PG (Instr.build 198 #[(0,(.int .i64 burst1)),(1,(.int .i64 rate1)),(2,(.int .i64 burst1))]) w fun v =>
 ∃ x14 : Int,∃ x14v1 : Int,∃ x14v2 : Int,v = (.agg #[(.int .i64 x14),(.int .i64 x14v1),(.int .i64 x14v2)]) /\
 (RUNA PG (Instr.box 198 (.agg #[(.int .i64 x14),(.int .i64 x14v1),(.int .i64 x14v2)])) w fun a15 w1 =>
 Q (.pointer (some a15)) w1)
theorem call74 {burst : Int} {rate : Int} {w : World} {Q : QP} (h_ : N74 burst rate w Q) : CALL PG 74 [(.int .i64 burst),(.int .i64 rate)] w Q:=calls_vq .nil tabOk Tryz.func74 (by kernel_rfl) h_
def N122 (sizev : Int) (w : World) (Q : QP) : Prop :=
 IFB (decide (sizev < 1))
 (Q (.tuple #[(.pointer none),(.int .i64 50)]) w)
 (IFB (decide (sizev > 65536))
 (Q (.tuple #[(.pointer none),(.int .i64 50)]) w)
 (RUNL PG (Instr.makeSlice 41 (.int .i64 sizev) (.int .i64 sizev)) w fun x11 x11N x11C w1 =>
 RD PG (Instr.build 157 #[(0,(.slice x11 x11N x11C))]) w1 fun v =>
 ∃ (x12 : Option Addr) (x12N x12C : Nat),∃ x12v1 : Int,∃ x12v2 : Int,v = (.agg #[(.slice x12 x12N x12C),(.int .i64 x12v1),(.int .i64 x12v2)]) /\
 (RUNA PG (Instr.box 157 (.agg #[(.slice x12 x12N x12C),(.int .i64 x12v1),(.int .i64 x12v2)])) w1 fun a13 w2 =>
 Q (.tuple #[(.pointer (some a13)),(.int .i64 0)]) w2)))
theorem call122 {sizev : Int} {w : World} {Q : QP} (h_ : N122 sizev w Q) : CALL PG 122 [(.int .i64 sizev)] w Q:=calls_vq .nil tabOk Tryz.func122 (by kernel_rfl) h_
def N123 (most : Int) (w : World) (Q : QP) : Prop :=
 RD PG (Instr.build 262 #[(0,(.int .i64 (minN (maxN most 1) 64)))]) w fun v =>
 ∃ x6 : Int,∃ (x6v1 : Option Addr) (x6N x6C : Nat),v = (.agg #[(.int .i64 x6),(.slice x6v1 x6N x6C)]) /\
 (RUNA PG (Instr.box 262 (.agg #[(.int .i64 x6),(.slice x6v1 x6N x6C)])) w fun a7 w1 =>
 Q (.pointer (some a7)) w1)
theorem call123 {most : Int} {w : World} {Q : QP} (h_ : N123 most w Q) : CALL PG 123 [(.int .i64 most)] w Q:=calls_vq .nil tabOk Tryz.func123 (by kernel_rfl) h_
end Go.Br
/- A connection that is new: its parts,its first path. -/
set_option linter.unusedVariables false
set_option linter.unusedSimpArgs false
set_option linter.unnecessarySimpa false
namespace Go.Br
open Go
instance biConnNewb (x0 : Int) (x1 : Int) (x2 : Int) (x3 : Int) : Bld PG (Instr.build 111 #[(2,.int .i64 x0),(3,.int .i64 x1),(4,.int .u16 x2),(5,.int .u16 x3)]) (.agg #[.int .i64 0,.int .u32 0,.int .u32 0,.int .u32 0,.int .u32 0,.int .i64 0,.int .i64 0,.bool false,.int .i64 0,.int .i64 x0,.int .i64 x1,.int .u16 x2,.int .u16 x3,.bool false,.bool false,.int .u32 0,.int .u32 0,.pointer none,.pointer none,.pointer none,.int .i64 0,.int .i64 0,.bool false,.int .i64 0,.int .i64 0]):=⟨fun w => by kernel_rfl⟩
instance biConnNewc (x0 : Option Addr) : Bld PG (Instr.build 92 #[(0,.pointer x0)]) (.agg #[.pointer x0,.int .u64 0,.bool false,.bool false]):=⟨fun w => by kernel_rfl⟩
instance biConnNewd (x0 : Option Addr) (x1 : Option Addr) : Bld PG (Instr.build 95 #[(0,.pointer x0),(1,.pointer x1)]) (.agg #[.pointer x0,.pointer x1,.int .u64 0,.int .u64 0,.bool false]):=⟨fun w => by kernel_rfl⟩
instance biConnNewe (x0 : Int) : Bld PG (Instr.build 155 #[(0,.int .i64 x0)]) (.agg #[.int .i64 x0,.slice none 0 0]):=⟨fun w => by kernel_rfl⟩
instance biConnNewf (x0 : Option Addr) (x1 : Int) (x2 : Int) : Bld PG (Instr.build 149 #[(0,.pointer x0),(1,.int .i64 x1),(2,.int .i64 x2)]) (.agg #[.pointer x0,.int .i64 x1,.int .i64 x2,.slice none 0 0]):=⟨fun w => by kernel_rfl⟩
instance biConnNewg (x0 : Int) (x1 : Int) (x2 : Int) : Bld PG (Instr.build 218 #[(0,.int .i64 x0),(1,.int .i64 x1),(2,.int .i64 x2)]) (.agg #[.int .i64 x0,.int .i64 x1,.int .i64 x2,.int .i64 0,.int .i64 0]):=⟨fun w => by kernel_rfl⟩
instance biConnNewh (x0 : Int) : Bld PG (Instr.build 220 #[(1,.int .i64 x0)]) (.agg #[.int .i64 0,.int .i64 x0,.int .i64 0]):=⟨fun w => by kernel_rfl⟩
instance biConnNewi (x0 : Int) (x1 : Int) (x2 : Int) : Bld PG (Instr.build 198 #[(0,.int .i64 x0),(1,.int .i64 x1),(2,.int .i64 x2)]) (.agg #[.int .i64 x0,.int .i64 x1,.int .i64 x2]):=⟨fun w => by kernel_rfl⟩
instance biConnNewj (x0 : Option Addr) (n0 c0 : Nat) : Bld PG (Instr.build 157 #[(0,.slice x0 n0 c0)]) (.agg #[.slice x0 n0 c0,.int .i64 0,.int .i64 0]):=⟨fun w => by kernel_rfl⟩
instance biConnNewk (x0 : Int) : Bld PG (Instr.build 262 #[(0,.int .i64 x0)]) (.agg #[.int .i64 x0,.slice none 0 0]):=⟨fun w => by kernel_rfl⟩
attribute [local irreducible] Addr.add RD RDS RUN RUNU NILC LETB CALL CALLX CALLV
structure Cn where
 keysIDK0 : Int
 keysIDK1 : Int
 keysClientK0 : Int
 keysClientK1 : Int
 keysServerK0 : Int
 keysServerK1 : Int
 keysJoinK0 : Int
 keysJoinK1 : Int
 keysToken : Int
 setPorts : Int
 setHalf : Int
 setConns : Int
 setFlows : Int
 setBuffer : Int
 setChunks : Int
 setAddrs : Int
 setPaths : Int
 setMss : Int
 setSilence : Int
 setKeep : Int
 setBurst : Int
 setRate : Int
 setScore : Int
 setPolicy : Int
 role : Int
 state : Int
 cause : Int
 mine : Int
 theirs : Int
 keyed : Bool
 firstPath : Int
 firstLocal : Int
 firstRemote : Int
 flows : Option Addr
 flowsN : Nat
 flowsC : Nat
 next : Int
 out : Option Addr
 inn : Option Addr
 way : Option Addr
 offers : Option Addr
 mayUse : Option Addr
 mayUseN : Nat
 mayUseC : Nat
 sent : Int
 edge : Int
 heard : Int
 told : Int
 last : Int
 silence : Int
 stall : Int
 rejoin : Int
 now : Int
 post : Option Addr
 postN : Nat
 postC : Nat
def cnc (x : Cn) : List Value:=[.int .u64 x.keysIDK0,.int .u64 x.keysIDK1,.int .u64 x.keysClientK0,.int .u64 x.keysClientK1,.int .u64 x.keysServerK0,.int .u64 x.keysServerK1,.int .u64 x.keysJoinK0,.int .u64 x.keysJoinK1,.int .u32 x.keysToken,.int .i64 x.setPorts,.int .i64 x.setHalf,.int .i64 x.setConns,.int .i64 x.setFlows,.int .i64 x.setBuffer,.int .i64 x.setChunks,.int .i64 x.setAddrs,.int .i64 x.setPaths,.int .i64 x.setMss,.int .i64 x.setSilence,.int .i64 x.setKeep,.int .i64 x.setBurst,.int .i64 x.setRate,.int .i64 x.setScore,.int .i64 x.setPolicy,.int .i64 x.role,.int .i64 x.state,.int .i64 x.cause,.int .u64 x.mine,.int .u64 x.theirs,.bool x.keyed,.int .i64 x.firstPath,.int .u16 x.firstLocal,.int .u16 x.firstRemote,.slice x.flows x.flowsN x.flowsC,.int .i64 x.next,.pointer x.out,.pointer x.inn,.pointer x.way,.pointer x.offers,.slice x.mayUse x.mayUseN x.mayUseC,.int .u64 x.sent,.int .u64 x.edge,.int .u32 x.heard,.int .u32 x.told,.int .i64 x.last,.int .i64 x.silence,.int .i64 x.stall,.int .i64 x.rejoin,.int .i64 x.now,.slice x.post x.postN x.postC]
structure Fw where
 numState : Int
 numFirst : Int
 numAcked : Int
 numNext : Int
 numWait : Int
 estsrtt : Int
 estdev : Int
 estknown : Bool
 estshift : Int
 id : Int
 path : Int
 loc : Int
 rem : Int
 backup : Bool
 fst : Bool
 nonce : Int
 other : Int
 win : Option Addr
 trust : Option Addr
 chall : Option Addr
 idle : Int
 quiet : Int
 heard : Bool
 age : Int
 tries : Int
def fwc (x : Fw) : List Value:=[.int .i64 x.numState,.int .u32 x.numFirst,.int .u32 x.numAcked,.int .u32 x.numNext,.int .u32 x.numWait,.int .i64 x.estsrtt,.int .i64 x.estdev,.bool x.estknown,.int .i64 x.estshift,.int .i64 x.id,.int .i64 x.path,.int .u16 x.loc,.int .u16 x.rem,.bool x.backup,.bool x.fst,.int .u32 x.nonce,.int .u32 x.other,.pointer x.win,.pointer x.trust,.pointer x.chall,.int .i64 x.idle,.int .i64 x.quiet,.bool x.heard,.int .i64 x.age,.int .i64 x.tries]
def fw0 : Fw:=⟨0,0,0,0,0,0,0,false,0,0,0,0,0,false,false,0,0,none,none,none,0,0,false,0,0⟩
def cn0 (g : Cfg) (role mine path loc rem : Int) (m : Nat) : Cn :=
 ⟨0,0,0,0,0,0,0,0,0,g.ports,g.half,g.conns,g.flows,g.buffer,g.chunks,g.addrs,g.paths,g.mss,g.silence,g.keep,g.burst,g.rate,g.score,g.policy,role,1,0,mine,0,false,path,loc,rem,none,0,0,1,none,none,none,none,some ⟨m,0,none⟩,1,1,0,0,0,0,0,0,0,0,0,none,0,0⟩
instance biConn (x0 x1 x2 x3 x4 x5 x6 x7 x8 x9 x10 x11 x12 x13 x14 role mine path loc rem : Int) (m : Nat) : Bld PG (Instr.build 67 #[(1,.agg #[.int .i64 x0,.int .i64 x1,.int .i64 x2,.int .i64 x3,.int .i64 x4,.int .i64 x5,.int .i64 x6,.int .i64 x7,.int .i64 x8,.int .i64 x9,.int .i64 x10,.int .i64 x11,.int .i64 x12,.int .i64 x13,.int .i64 x14]),(2,.int .i64 role),(3,.int .i64 1),(5,.int .u64 mine),(8,.agg #[.int .i64 path,.int .u16 loc,.int .u16 rem]),(10,.int .i64 1),(15,.slice (some ⟨m,0,none⟩) 1 1)])
 (.agg (cnc (cn0 ⟨x0,x1,x2,x3,x4,x5,x6,x7,x8,x9,x10,x11,x12,x13,x14⟩ role mine path loc rem m)).toArray):=⟨fun w => by kernel_rfl⟩
abbrev bkc (burst rate tokens : Int) : List Value:=[.int .i64 burst,.int .i64 rate,.int .i64 tokens]
section
variable {c : Ctx} {w : World} {L R : List SA}
theorem ringnew_ok (h : St c w L) {n : Int} (h0 : 1 <= n) (h1 : n <= 65536) {Q : Value -> World -> Prop}
  (hk : ∀ r b w',St c w' (blk r 157 [.slice (some ⟨b,0,none⟩) n.toNat n.toNat,.int .i64 0,.int .i64 0] :: blk b 5 (zeros [.int .u8 0] n.toNat) :: L) -> Q (.tuple #[.pointer (some ⟨r,0,none⟩),.int .i64 0]) w') : CALL PG 122 [.int .i64 n] w Q:=by
 refine call122 ?_
 unfold N122
 refine ifdf (by omega) (ifdf (by omega) ?_)
 refine h.make huPk tiPkU8 (by omega) (by omega) (by omega) (by omega) fun b w' h => ?_
 refine RD.bld ?_
 (repeat apply exi)
 apply exr
 refine h.box fun r w' h => ?_
 exact hk r b _ h
theorem outnew_ok (h : St c w L) {n : Int} (h0 : 1 <= n) (h1 : n <= 65536) {Q : Value -> World -> Prop}
  (hk : ∀ o r b w',St c w' (blk o 92 [.pointer (some ⟨r,0,none⟩),.int .u64 0,.bool false,.bool false] :: blk r 157 [.slice (some ⟨b,0,none⟩) n.toNat n.toNat,.int .i64 0,.int .i64 0] :: blk b 5 (zeros [.int .u8 0] n.toNat) :: L) -> Q (.tuple #[.pointer (some ⟨o,0,none⟩),.int .i64 0]) w') : CALL PG 68 [.int .i64 n] w Q:=by
 refine call68 ?_
 unfold N68
 refine ringnew_ok h h0 h1 fun r b w' h => ?_
 (repeat apply exi)
 apply exr
 refine leti rfl (ifnsame rfl ?_)
 refine RD.bld ?_
 (repeat apply exi)
 apply exr
 refine h.box fun o w' h => ?_
 exact hk o r b _ h
theorem spansnew_ok (h : St c w L) {n : Int} (h0 : 1 <= n) (h1 : n <= 64) {Q : Value -> World -> Prop} (hk : ∀ p w',St c w' (blk p 262 [.int .i64 n,.slice none 0 0] :: L) -> Q (.pointer (some ⟨p,0,none⟩)) w') : CALL PG 123 [.int .i64 n] w Q:=by
 refine call123 ?_
 unfold N123
 rw [show minN (maxN n 1) 64 = n by unfold minN maxN; (repeat' split) <;> omega]
 refine RD.bld ?_
 (repeat apply exi)
 apply exr
 exact h.box fun p w' h => hk p _ h
theorem innew_ok (h : St c w L) {n m : Int} (h0 : 1 <= n) (h1 : n <= 65536) (h2 : 1 <= m) (h3 : m <= 64) {Q : Value -> World -> Prop}
  (hk : ∀ i s r b w',St c w' (blk i 95 [.pointer (some ⟨r,0,none⟩),.pointer (some ⟨s,0,none⟩),.int .u64 0,.int .u64 0,.bool false] :: blk s 262 [.int .i64 m,.slice none 0 0] :: blk r 157 [.slice (some ⟨b,0,none⟩) n.toNat n.toNat,.int .i64 0,.int .i64 0] :: blk b 5 (zeros [.int .u8 0] n.toNat) :: L) -> Q (.tuple #[.pointer (some ⟨i,0,none⟩),.int .i64 0]) w') : CALL PG 69 [.int .i64 n,.int .i64 m] w Q:=by
 refine call69 ?_
 unfold N69
 refine ringnew_ok h h0 h1 fun r b w' h => ?_
 (repeat apply exi)
 apply exr
 refine leti rfl (ifnsame rfl ?_)
 refine spansnew_ok h h2 h3 fun s w' h => ?_
 (repeat apply exi)
 apply exr
 refine RD.bld ?_
 (repeat apply exi)
 apply exr
 refine h.box fun i w' h => ?_
 exact hk i s r b _ h
theorem waynew_ok (h : St c w L) {n : Int} (h0 : 1 <= n) (h1 : n <= 64) {Q : Value -> World -> Prop} (hk : ∀ p w',St c w' (blk p 155 [.int .i64 n,.slice none 0 0] :: L) -> Q (.pointer (some ⟨p,0,none⟩)) w') : CALL PG 70 [.int .i64 n] w Q:=by
 refine call70 ?_
 unfold N70
 rw [show minN (maxN n 1) 64 = n by unfold minN maxN; (repeat' split) <;> omega]
 refine RD.bld ?_
 (repeat apply exi)
 apply exr
 exact h.box fun p w' h => hk p _ h
theorem bknew_ok (h : St c w L) {n m : Int} (h0 : 0 <= n) (h1 : n <= 4096) (h2 : 0 <= m) (h3 : m <= 4096) {Q : Value -> World -> Prop} (hk : ∀ p w',St c w' (blk p 198 (bkc n m n) :: L) -> Q (.pointer (some ⟨p,0,none⟩)) w') : CALL PG 74 [.int .i64 n,.int .i64 m] w Q:=by
 refine call74 ?_
 unfold N74
 refine leti (y:=n) (by unfold minN maxN; (repeat' split) <;> omega) ?_
 refine leti (y:=m) (by unfold minN maxN; (repeat' split) <;> omega) ?_
 refine RD.bld ?_
 (repeat apply exi)
 apply exr
 exact h.box fun p w' h => hk p _ h
theorem adnew_ok (h : St c w L) {n m : Int} (h0 : 0 <= n) (h1 : n <= 8) (h2 : 1 <= m) (h3 : m <= 4) {Q : Value -> World -> Prop} (hk : ∀ p b w',St c w' (blk p 149 [.pointer (some ⟨b,0,none⟩),.int .i64 n,.int .i64 m,.slice none 0 0] :: blk b 198 (bkc 64 1 64) :: L) -> Q (.pointer (some ⟨p,0,none⟩)) w') : CALL PG 71 [.int .i64 n,.int .i64 m] w Q:=by
 refine call71 ?_
 unfold N71
 rw [show minN (maxN n 0) 8 = n by unfold minN maxN; (repeat' split) <;> omega,show minN (maxN m 1) 4 = m by unfold minN maxN; (repeat' split) <;> omega]
 refine bknew_ok h (by decide) (by decide) (by decide) (by decide) fun b w' h => ?_
 (repeat apply exi)
 apply exr
 refine RD.bld ?_
 (repeat apply exi)
 apply exr
 exact h.box fun p w' h => hk p b _ h
theorem winnew_ok (h : St c w L) {n : Int} (h0 : 1 <= n) (h1 : n <= 1024) {Q : Value -> World -> Prop} (hk : ∀ p w',St c w' (blk p 218 [.int .i64 n,.int .i64 (4 * n),.int .i64 (64 * n),.int .i64 0,.int .i64 0] :: L) -> Q (.pointer (some ⟨p,0,none⟩)) w') : CALL PG 72 [.int .i64 n] w Q:=by
 refine call72 ?_
 unfold N72
 refine leti (y:=n) (by unfold minN maxN; (repeat' split) <;> omega) ?_
 rw [wrap_i64 (n:=4 * n) (by omega) (by omega),wrap_i64 (n:=64 * n) (by omega) (by omega)]
 refine RD.bld ?_
 (repeat apply exi)
 apply exr
 exact h.box fun p w' h => hk p _ h
theorem quarnew_ok (h : St c w L) {n : Int} (h0 : 1 <= n) (h1 : n <= 4096) {Q : Value -> World -> Prop} (hk : ∀ p w',St c w' (blk p 220 [.int .i64 0,.int .i64 n,.int .i64 0] :: L) -> Q (.pointer (some ⟨p,0,none⟩)) w') : CALL PG 73 [.int .i64 n] w Q:=by
 refine call73 ?_
 unfold N73
 rw [show minN (maxN n 1) 4096 = n by unfold minN maxN; (repeat' split) <;> omega]
 refine RD.bld ?_
 (repeat apply exi)
 apply exr
 exact h.box fun p w' h => hk p _ h
def fwN (id path loc rem first : Int) (win trust chall : Nat) : Fw:={ fw0 with numState:=1,numFirst:=first,numAcked:=first,numNext:=IntKind.u32.wrap (first + 1),id:=id,path:=path,loc:=loc,rem:=rem,win:=some ⟨win,0,none⟩,trust:=some ⟨trust,0,none⟩,chall:=some ⟨chall,0,none⟩ }
abbrev fwP (g : Cfg) (win trust chall : Nat) (L : List SA) : List SA:=blk chall 198 (bkc g.burst g.rate g.burst) :: blk trust 220 [.int .i64 0,.int .i64 g.score,.int .i64 0] :: blk win 218 [.int .i64 g.mss,.int .i64 (4 * g.mss),.int .i64 (64 * g.mss),.int .i64 0,.int .i64 0] :: L
theorem flownew_ok (h : St c w L) {g : Cfg} (hg : CfgOk g) {id path loc rem first : Int} {Q : Value -> World -> Prop}
  (hk : ∀ f a b d w',St c w' (blk f 111 (fwc (fwN id path loc rem first a b d)) :: fwP g a b d L) -> Q (.pointer (some ⟨f,0,none⟩)) w') : CALL PG 38 [cfgv g,.int .i64 id,.agg #[.int .i64 path,.int .u16 loc,.int .u16 rem],.int .u32 first] w Q:=by
 obtain ⟨g1,g2,g3,g4⟩:=hg
 unfold CfgS at g2
 unfold CfgR at g4
 refine call38 ?_
 unfold N38
 refine h.box (vs:=cfg g) fun q w' h => ?_
 refine h.box fun q2 w' h => ?_
 refine h.rdI 0 (h.rdI 1 (h.rdI 2 ?_))
 refine RD.bld ⟨_,rfl,?_⟩
 refine h.box fun f w' h => ?_
 refine h.rdI (B:=q) 8 ?_
 refine winnew_ok h (by omega) (by omega) fun a w' h => ?_
 (repeat apply exi)
 apply exr
 refine h.st (B:=f) 17 fun w' h => ?_
 refine h.rdI (B:=q) 13 ?_
 refine quarnew_ok h (by omega) (by omega) fun b w' h => ?_
 (repeat apply exi)
 apply exr
 refine h.st (B:=f) 18 fun w' h => ?_
 refine h.rdI (B:=q) 11 ?_
 refine h.rdI (B:=q) 12 ?_
 refine bknew_ok h (by omega) (by omega) (by omega) (by omega) fun d w' h => ?_
 (repeat apply exi)
 apply exr
 refine h.st (B:=f) 19 fun w' h => ?_
 refine h.st2 (B:=f) 0 0 fun w' h => ?_
 refine h.st2 (B:=f) 0 1 fun w' h => ?_
 refine h.st2 (B:=f) 0 2 fun w' h => ?_
 refine h.st2 (B:=f) 0 3 fun w' h => ?_
 refine hk f a b d _ ?_
 exact h.sub (.cons .head (.cons .head (.cons .head (.cons .head (Sub.same _).more.more))))
abbrev cnP (g : Cfg) (m o r b i s r2 b2 y ad bk : Nat) (L : List SA) : List SA :=
 blk ad 149 [.pointer (some ⟨bk,0,none⟩),.int .i64 g.addrs,.int .i64 g.paths,.slice none 0 0] :: blk bk 198 (bkc 64 1 64) :: blk y 155 [.int .i64 g.chunks,.slice none 0 0] ::
 blk i 95 [.pointer (some ⟨r2,0,none⟩),.pointer (some ⟨s,0,none⟩),.int .u64 0,.int .u64 0,.bool false] :: blk s 262 [.int .i64 g.chunks,.slice none 0 0] :: blk r2 157 [.slice (some ⟨b2,0,none⟩) g.buffer.toNat g.buffer.toNat,.int .i64 0,.int .i64 0] :: blk b2 5 (zeros [.int .u8 0] g.buffer.toNat) ::
 blk o 92 [.pointer (some ⟨r,0,none⟩),.int .u64 0,.bool false,.bool false] :: blk r 157 [.slice (some ⟨b,0,none⟩) g.buffer.toNat g.buffer.toNat,.int .i64 0,.int .i64 0] :: blk b 5 (zeros [.int .u8 0] g.buffer.toNat) :: L
def cnF (g : Cfg) (role mine path loc rem : Int) (m o i y ad : Nat) : Cn:={ cn0 g role mine path loc rem m with out:=some ⟨o,0,none⟩,inn:=some ⟨i,0,none⟩,way:=some ⟨y,0,none⟩,offers:=some ⟨ad,0,none⟩ }
theorem fresh_ok (h : St c w L) {g : Cfg} (hg : CfgOk g) {role mine path loc rem : Int} {Q : Value -> World -> Prop}
  (hk : ∀ x m o r b i s r2 b2 y ad bk w',St c w' (blk x 67 (cnc (cnF g role mine path loc rem m o i y ad)) :: cnP g m o r b i s r2 b2 y ad bk (own 3 1 (some ⟨m,0,none⟩) 1 1 [.int .i64 path] :: L)) -> Q (.pointer (some ⟨x,0,none⟩)) w') : CALL PG 37 [cfgv g,.int .i64 role,.int .u64 mine,.agg #[.int .i64 path,.int .u16 loc,.int .u16 rem]] w Q:=by
 obtain ⟨g1,g2,g3,g4⟩:=hg
 unfold CfgS at g2
 refine call37 ?_
 unfold N37
 refine h.box (vs:=cfg g) fun q w' h => ?_
 refine h.box fun q2 w' h => ?_
 refine h.rdG (B:=q) ?_
 (repeat apply exi)
 apply exr
 refine h.rdG (B:=q2) ?_
 (repeat apply exi)
 apply exr
 refine h.rdI (B:=q2) 0 ?_
 refine h.lit (n:=1) 3 1 [.int .i64 path] fun m w' h => ?_
 refine RD.bld ⟨_,rfl,?_⟩
 refine h.box (vs:=cnc (cn0 g role mine path loc rem m)) fun x w' h => ?_
 refine h.rdI (B:=q) 4 ?_
 refine outnew_ok h (by omega) (by omega) fun o r b w' h => ?_
 (repeat apply exi)
 apply exr
 refine h.st (B:=x) 35 fun w' h => ?_
 refine h.rdI (B:=q) 4 ?_
 refine h.rdI (B:=q) 5 ?_
 refine innew_ok h (by omega) (by omega) (by omega) (by omega) fun i s r2 b2 w' h => ?_
 (repeat apply exi)
 apply exr
 refine h.st (B:=x) 36 fun w' h => ?_
 refine h.rdI (B:=q) 5 ?_
 refine waynew_ok h (by omega) (by omega) fun y w' h => ?_
 (repeat apply exi)
 apply exr
 refine h.st (B:=x) 37 fun w' h => ?_
 refine h.rdI (B:=q) 6 ?_
 refine h.rdI (B:=q) 7 ?_
 refine adnew_ok h (by omega) (by omega) (by omega) (by omega) fun ad bk w' h => ?_
 (repeat apply exi)
 apply exr
 refine h.st (B:=x) 38 fun w' h => ?_
 refine hk x m o r b i s r2 b2 y ad bk _ ?_
 exact h.sub (.cons .head (.cons .head (.cons .head (.cons .head (.cons .head (.cons .head (.cons .head (.cons .head (.cons .head (.cons .head (.cons .head (.cons .head (Sub.same _).more.more))))))))))))
end
end Go.Br
/- What the code of some functions says,as the core reads it; each reading is checked by the kernel. -/
set_option linter.unusedVariables false
set_option maxRecDepth 100000
namespace Go.Br
open Go Go.Proofs
def N39 (x : Option Addr) (f : Option Addr) (w : World) (Q : QP) : Prop :=
 NILC x fun a6 =>
 RDI PG (loadVar 25 (a6.add 27)) .u64 w fun x8 =>
 RD PG (Instr.build 128 #[(0,(.int .u64 x8))]) w fun v =>
 ∃ x9 : Int,∃ x9v1 : Bool,∃ x9v2 : Int,v = (.agg #[(.int .u64 x9),(.bool x9v1),(.int .u64 x9v2)]) /\
 (CALL PG 75 [(.agg #[(.int .u64 x9),(.bool x9v1),(.int .u64 x9v2)])] w fun v1 w1 =>
 ∃ x10 : Int,∃ (x10v1 : Option Addr) (x10N x10C : Nat),v1 = (.agg #[(.int .u8 x10),(.slice x10v1 x10N x10C)]) /\
 (RUNA PG (Instr.alloc 122 true (.tuple #[])) w1 fun a4 w2 =>
 RUNU PG (storeVar 122 a4 (.agg #[(.int .u8 x10),(.slice x10v1 x10N x10C)])) w2 fun w3 =>
 NILC f fun a12 =>
 RDB PG (loadVar 4 (a12.add 14)) w3 fun x14 =>
 IFB (!x14)
 (NILC x fun a18 =>
 RDI PG (loadVar 26 ((a18.add 0).add 8)) .u32 w3 fun x21 =>
 CALL PG 76 [(.pointer f),(.int .u32 x21)] w3 fun v2 w4 =>
 ∃ x22 : Int,∃ x22v1 : Int,∃ x22v2 : Int,∃ x22v3 : Bool,∃ x22v4 : Bool,∃ x22v5 : Int,v2 = (.agg #[(.int .u32 x22),(.int .u32 x22v1),(.int .u8 x22v2),(.bool x22v3),(.bool x22v4),(.int .u64 x22v5)]) /\
 (CALL PG 77 [(.agg #[(.int .u32 x22),(.int .u32 x22v1),(.int .u8 x22v2),(.bool x22v3),(.bool x22v4),(.int .u64 x22v5)])] w4 fun v3 w5 =>
 ∃ x23 : Int,∃ (x23v1 : Option Addr) (x23N x23C : Nat),v3 = (.agg #[(.int .u8 x23),(.slice x23v1 x23N x23C)]) /\
 (RUNU PG (storeVar 122 a4 (.agg #[(.int .u8 x23),(.slice x23v1 x23N x23C)])) w5 fun w6 =>
 RD PG (loadVar 122 a4) w6 fun v4 =>
 ∃ x27 : Int,∃ (x27v1 : Option Addr) (x27N x27C : Nat),v4 = (.agg #[(.int .u8 x27),(.slice x27v1 x27N x27C)]) /\
 (CALL PG 79 [(.pointer f),(.agg #[(.int .u8 x27),(.slice x27v1 x27N x27C)])] w6 fun v5 w7 =>
 ∃ x28 : Int,∃ x28v1 : Int,∃ x28v2 : Int,∃ x28v3 : Int,∃ x28v4 : Int,∃ (x28v5 : Option Addr) (x28N x28C : Nat),∃ (x28v6 : Option Addr) (x28N1 x28C1 : Nat),v5 = (.agg #[(.int .u16 x28),(.int .u16 x28v1),(.int .u32 x28v2),(.int .u32 x28v3),(.int .u8 x28v4),(.slice x28v5 x28N x28C),(.slice x28v6 x28N1 x28C1)]) /\
 (CALL PG 78 [(.pointer x),(.pointer f),(.agg #[(.int .u16 x28),(.int .u16 x28v1),(.int .u32 x28v2),(.int .u32 x28v3),(.int .u8 x28v4),(.slice x28v5 x28N x28C),(.slice x28v6 x28N1 x28C1)])] w7 fun v6 w8 =>
 v6 = (.tuple #[]) /\
 (Q (.tuple #[]) w8))))))
 (RD PG (loadVar 122 a4) w3 fun v7 =>
 ∃ x27v2 : Int,∃ (x27v3 : Option Addr) (x27N1 x27C1 : Nat),v7 = (.agg #[(.int .u8 x27v2),(.slice x27v3 x27N1 x27C1)]) /\
 (CALL PG 79 [(.pointer f),(.agg #[(.int .u8 x27v2),(.slice x27v3 x27N1 x27C1)])] w3 fun v8 w9 =>
 ∃ x28v7 : Int,∃ x28v8 : Int,∃ x28v9 : Int,∃ x28v10 : Int,∃ x28v11 : Int,∃ (x28v12 : Option Addr) (x28N2 x28C2 : Nat),∃ (x28v13 : Option Addr) (x28N3 x28C3 : Nat),v8 = (.agg #[(.int .u16 x28v7),(.int .u16 x28v8),(.int .u32 x28v9),(.int .u32 x28v10),(.int .u8 x28v11),(.slice x28v12 x28N2 x28C2),(.slice x28v13 x28N3 x28C3)]) /\
 (CALL PG 78 [(.pointer x),(.pointer f),(.agg #[(.int .u16 x28v7),(.int .u16 x28v8),(.int .u32 x28v9),(.int .u32 x28v10),(.int .u8 x28v11),(.slice x28v12 x28N2 x28C2),(.slice x28v13 x28N3 x28C3)])] w9 fun v9 w10 =>
 v9 = (.tuple #[]) /\
 (Q (.tuple #[]) w10))))))
theorem call39 {x : Option Addr} {f : Option Addr} {w : World} {Q : QP} (h_ : N39 x f w Q) : CALL PG 39 [(.pointer x),(.pointer f)] w Q:=calls_vq .nil tabOk Tryz.func39 (by kernel_rfl) h_
def N78 (x : Option Addr) (f : Option Addr) (s : Int) (s1 : Int) (s2 : Int) (s3 : Int) (s4 : Int) (s5 : Option Addr) (sN sC : Nat) (s6 : Option Addr) (sN1 sC1 : Nat) (w : World) (Q : QP) : Prop :=
 RUNA PG (Instr.box 118 (.agg #[(.int .u16 s),(.int .u16 s1),(.int .u32 s2),(.int .u32 s3),(.int .u8 s4),(.slice s5 sN sC),(.slice s6 sN1 sC1)])) w fun a5 w1 =>
 RD PG (loadVar 118 a5) w1 fun v =>
 ∃ x9 : Int,∃ x9v1 : Int,∃ x9v2 : Int,∃ x9v3 : Int,∃ x9v4 : Int,∃ (x9v5 : Option Addr) (x9N x9C : Nat),∃ (x9v6 : Option Addr) (x9N1 x9C1 : Nat),v = (.agg #[(.int .u16 x9),(.int .u16 x9v1),(.int .u32 x9v2),(.int .u32 x9v3),(.int .u8 x9v4),(.slice x9v5 x9N x9C),(.slice x9v6 x9N1 x9C1)]) /\
 (CALL PG 129 [(.agg #[(.int .u16 x9),(.int .u16 x9v1),(.int .u32 x9v2),(.int .u32 x9v3),(.int .u8 x9v4),(.slice x9v5 x9N x9C),(.slice x9v6 x9N1 x9C1)])] w1 fun v1 w2 =>
 ∃ (x10 : Option Addr) (x10N x10C : Nat),∃ x10v1 : Int,v1 = (.tuple #[(.slice x10 x10N x10C),(.int .i64 x10v1)]) /\
 (LETI x10v1 fun e =>
 IFB (e == 0)
 (∃ S : World -> Prop,S (w2.drew) /\
 (NILC x fun a17 =>
 RDSL PG (loadVar 65 (a17.add 49)) S fun x19 x19N x19C =>
 NILC f fun a21 =>
 RDSI PG (loadVar 3 (a21.add 10)) .i64 S fun x23 =>
 RDS PG (Instr.build 115 #[(0,(.int .i64 x23)),(1,(.slice x10 x10N x10C))]) S fun v2 =>
 ∃ x25 : Int,∃ (x25v1 : Option Addr) (x25N x25C : Nat),v2 = (.agg #[(.int .i64 x25),(.slice x25v1 x25N x25C)]) /\
 (RUNL PG (Instr.buildSlice 65 1 #[(0,(.agg #[(.int .i64 x25),(.slice x25v1 x25N x25C)]))]) (w2.drew) fun x26 x26N x26C w3 =>
 ∃ S1 : World -> Prop,(∀ x,S1 x -> S x) /\ S1 w3 /\
 (RUNL PG (Builtin.append_ #[65,65] 65 #[(.slice x19 x19N x19C),(.slice x26 x26N x26C)]) w3 fun x27 x27N x27C w4 =>
 NILC x fun a28 =>
 RUNU PG (storeVar 65 (a28.add 49) (.slice x27 x27N x27C)) w4 fun w5 =>
 Q (.tuple #[]) w5))))
 (Q (.tuple #[]) w2)))
theorem call78 {x : Option Addr} {f : Option Addr} {s : Int} {s1 : Int} {s2 : Int} {s3 : Int} {s4 : Int} {s5 : Option Addr} {sN sC : Nat} {s6 : Option Addr} {sN1 sC1 : Nat} {w : World} {Q : QP} (h_ : N78 x f s s1 s2 s3 s4 s5 sN sC s6 sN1 sC1 w Q) : CALL PG 78 [(.pointer x),(.pointer f),(.agg #[(.int .u16 s),(.int .u16 s1),(.int .u32 s2),(.int .u32 s3),(.int .u8 s4),(.slice s5 sN sC),(.slice s6 sN1 sC1)])] w Q:=calls_vq .nil tabOk Tryz.func78 (by kernel_rfl) h_
def N79 (f : Option Addr) (o : Int) (o1 : Option Addr) (oN oC : Nat) (w : World) (Q : QP) : Prop :=
 RUNA PG (Instr.box 122 (.agg #[(.int .u8 o),(.slice o1 oN oC)])) w fun a3 w1 =>
 RUNA PG (Instr.alloc 118 true (.tuple #[])) w1 fun a4 w2 =>
 ∃ S : World -> Prop,S (w2.drew) /\
 (NILC f fun a6 =>
 RDSI PG (loadVar 49 (a6.add 11)) .u16 S fun x8 =>
 NILC f fun a10 =>
 RDSI PG (loadVar 49 (a10.add 12)) .u16 S fun x12 =>
 NILC f fun a14 =>
 RDSI PG (loadVar 26 ((a14.add 0).add 1)) .u32 S fun x17 =>
 RDS PG (Instr.build 118 #[(0,(.int .u16 x8)),(1,(.int .u16 x12)),(2,(.int .u32 x17)),(4,(.int .u8 1))]) S fun v =>
 ∃ x18 : Int,∃ x18v1 : Int,∃ x18v2 : Int,∃ x18v3 : Int,∃ x18v4 : Int,∃ (x18v5 : Option Addr) (x18N x18C : Nat),∃ (x18v6 : Option Addr) (x18N1 x18C1 : Nat),v = (.agg #[(.int .u16 x18),(.int .u16 x18v1),(.int .u32 x18v2),(.int .u32 x18v3),(.int .u8 x18v4),(.slice x18v5 x18N x18C),(.slice x18v6 x18N1 x18C1)]) /\
 (RDS PG (loadVar 122 a3) S fun v1 =>
 ∃ x19 : Int,∃ (x19v1 : Option Addr) (x19N x19C : Nat),v1 = (.agg #[(.int .u8 x19),(.slice x19v1 x19N x19C)]) /\
 (RUNL PG (Instr.buildSlice 116 1 #[(0,(.agg #[(.int .u8 x19),(.slice x19v1 x19N x19C)]))]) (w2.drew) fun x20 x20N x20C w3 =>
 ∃ S1 : World -> Prop,(∀ x,S1 x -> S x) /\ S1 w3 /\
 (CALL PG 130 [(.agg #[(.int .u16 x18),(.int .u16 x18v1),(.int .u32 x18v2),(.int .u32 x18v3),(.int .u8 x18v4),(.slice x18v5 x18N x18C),(.slice x18v6 x18N1 x18C1)]),(.slice x20 x20N x20C)] w3 fun v2 w4 =>
 ∃ x21 : Int,∃ x21v1 : Int,∃ x21v2 : Int,∃ x21v3 : Int,∃ x21v4 : Int,∃ (x21v5 : Option Addr) (x21N x21C : Nat),∃ (x21v6 : Option Addr) (x21N1 x21C1 : Nat),v2 = (.agg #[(.int .u16 x21),(.int .u16 x21v1),(.int .u32 x21v2),(.int .u32 x21v3),(.int .u8 x21v4),(.slice x21v5 x21N x21C),(.slice x21v6 x21N1 x21C1)]) /\
 (RUNU PG (storeVar 118 a4 (.agg #[(.int .u16 x21),(.int .u16 x21v1),(.int .u32 x21v2),(.int .u32 x21v3),(.int .u8 x21v4),(.slice x21v5 x21N x21C),(.slice x21v6 x21N1 x21C1)])) w4 fun w5 =>
 RD PG (loadVar 118 a4) w5 fun v4 =>
 ∃ r : Int,∃ r1 : Int,∃ r2 : Int,∃ r3 : Int,∃ r4 : Int,∃ (r5 : Option Addr) (rN rC : Nat),∃ (r6 : Option Addr) (rN1 rC1 : Nat),v4 = (.agg #[(.int .u16 r),(.int .u16 r1),(.int .u32 r2),(.int .u32 r3),(.int .u8 r4),(.slice r5 rN rC),(.slice r6 rN1 rC1)]) /\
 (Q (.agg #[(.int .u16 r),(.int .u16 r1),(.int .u32 r2),(.int .u32 r3),(.int .u8 r4),(.slice r5 rN rC),(.slice r6 rN1 rC1)]) w5))))))
theorem call79 {f : Option Addr} {o : Int} {o1 : Option Addr} {oN oC : Nat} {w : World} {Q : QP} (h_ : N79 f o o1 oN oC w Q) : CALL PG 79 [(.pointer f),(.agg #[(.int .u8 o),(.slice o1 oN oC)])] w Q:=calls_vq .nil tabOk Tryz.func79 (by kernel_rfl) h_
end Go.Br
/- A connection is asked for: what is drawn,what is sent. -/
set_option linter.unusedVariables false
set_option linter.unusedSimpArgs false
set_option linter.unnecessarySimpa false
namespace Go.Br
open Go
instance biConnAska (x0 : Int) : Bld PG (Instr.build 128 #[(0,.int .u64 x0)]) (.agg #[.int .u64 x0,.bool false,.int .u64 0]):=⟨fun w => by kernel_rfl⟩
instance biConnAskb : Zro PG 122 2 32 (.agg #[.int .u8 0,.slice none 0 0]):=⟨tiOf (by kernel_rfl)⟩
instance biConnAskc (x0 : Int) (x1 : Option Addr) (n1 c1 : Nat) : Bld PG (Instr.build 115 #[(0,.int .i64 x0),(1,.slice x1 n1 c1)]) (.agg #[.int .i64 x0,.slice x1 n1 c1]):=⟨fun w => by kernel_rfl⟩
instance biConnAskd (x0 : Int) (x1 : Int) (x2 : Int) (x3 : Int) : Bld PG (Instr.build 118 #[(0,.int .u16 x0),(1,.int .u16 x1),(2,.int .u32 x2),(4,.int .u8 x3)]) (.agg #[.int .u16 x0,.int .u16 x1,.int .u32 x2,.int .u32 0,.int .u8 x3,.slice none 0 0,.slice none 0 0]):=⟨fun w => by kernel_rfl⟩
instance biConnAske : Zro PG 118 7 64 (.agg #[.int .u16 0,.int .u16 0,.int .u32 0,.int .u32 0,.int .u8 0,.slice none 0 0,.slice none 0 0]):=⟨tiOf (by kernel_rfl)⟩
attribute [local irreducible] Addr.add RD RDS RUN RUNU NILC LETB CALL CALLX CALLV
structure Pkt where
 path : Int
 b : Option Addr
 bC : Nat
 bs : List UInt8
def pkc (x : Pkt) : List Value:=[.int .i64 x.path,.slice x.b x.bs.length x.bC]
theorem pkc_flat1 (x : Pkt) : Flat (pkc x):=by intro v hv; simp [pkc] at hv; rcases hv with rfl | rfl <;> rfl
theorem tiPkt : TI PG 115 2 32 (.agg #[.int .i64 0,.slice none 0 0]):=tiOf (by kernel_rfl)
theorem tiFlowp : TI PG 99 1 8 (.pointer none):=tiOf (by kernel_rfl)
theorem huPkts : PG.underlying 65 = some (.slice 115):=by kernel_rfl
theorem huFlowps : PG.underlying 59 = some (.slice 99):=by kernel_rfl
def PkEq (p : Pkt) (bs : List UInt8) : Prop:=p.bs = bs /\ p.bs.length <= p.bC
abbrev bodP (ps : List Pkt) : SA:=Br.ro fun w => ∀ p ∈ ps,Row w p.b (bvs p.bs)
section
variable {c : Ctx} {w : World} {L R : List SA}
theorem send_ok {x f : Nat} {X : Cn} {F : Fw} {ps : List Pkt} (h : St c w (blk x 67 (cnc X) :: blk f 111 (fwc F) :: own 115 2 X.post X.postN X.postC (ps.flatMap pkc) :: bodP ps :: L)) (hn : X.postN <= 100000) {s : Sg} (hs : SgIn L s) (ok : SgOk s.pl) {Q : Value -> World -> Prop}
  (hk : ∀ O d p w',p.path = F.path -> PkEq p (encB s.pl) -> St c w' (blk x 67 (cnc { X with post:=O,postN:=X.postN + 1,postC:=d }) :: blk f 111 (fwc F) :: own 115 2 O (X.postN + 1) d ((ps ++ [p]).flatMap pkc) :: bodP (ps ++ [p]) :: L) -> Q (.tuple #[]) w') :
  CALL PG 78 [.pointer (some ⟨x,0,none⟩),.pointer (some ⟨f,0,none⟩),sgv s] w Q:=by
 refine call78 ?_
 unfold N78
 refine h.box fun q w' h => ?_
 refine h.rdG (B:=q) ?_
 (repeat apply exi)
 apply exr
 refine senc_ok h hs.more.more.more.more.more ok fun O1 k1 w' h => ?_
 have hcap:=(h.own .head).le
 (repeat apply exi)
 apply exr
 refine leti rfl (ift rfl ?_)
 have h:=h.drew
 refine ⟨fun w => St c w [blk x 67 (cnc X),blk f 111 (fwc F)],h.sub (.cons (.tail (.tail .head)) (.cons (.tail (.tail .head)) .nil)),nilc ?_⟩
 refine St.rdsL (B:=x) 49 (nilc ?_)
 refine St.rdsI (B:=f) 10 ?_
 refine RDS.bld ?_
 (repeat apply exi)
 apply exr
 refine h.lit (n:=1) 115 2 (pkc ⟨F.path,O1,k1,encB s.pl⟩) fun q2 w' h => ?_
 refine ⟨_,fun _ h => h,h.sub (.cons (.tail (.tail (.tail .head))) (.cons (.tail (.tail (.tail .head))) .nil)),?_⟩
 refine h.append huPkts tiPkt (.tail (.tail (.tail (.tail (.tail .head))))) (RdIn.own .head) (m:=1) rfl (pkc_flat1 _) (by omega) fun O2 d2 w' h => nilc ?_
 refine h.st (B:=x) 49 fun w' h => ?_
 refine hk O2 d2 ⟨F.path,O1,k1,encB s.pl⟩ _ rfl ⟨rfl,hcap⟩ ?_
 have h:=h.sub (show Sub _ (own 5 1 O1 (encB s.pl).length k1 (bvs (encB s.pl)) :: bodP ps :: blk x 67 (cnc { X with post:=O2,postN:=X.postN + 1,postC:=d2 }) :: blk f 111 (fwc F) :: own 115 2 O2 (X.postN + 1) d2 (ps.flatMap pkc ++ pkc ⟨F.path,O1,k1,encB s.pl⟩) :: L) from
  .cons (.tail (.tail (.tail .head))) (.cons (.tail (.tail (.tail (.tail (.tail .head))))) (.cons .head (.cons (.tail (.tail (.tail .head))) (.cons .head (Sub.same _).more.more)))))
 have h:=h.ownRows.ro2.roW (ψ:=fun w => ∀ p ∈ ps ++ [(⟨F.path,O1,k1,encB s.pl⟩ : Pkt)],Row w p.b (bvs p.bs)) fun w ⟨a,b⟩ p hp => by
  rw [List.mem_append,List.mem_singleton] at hp
  rcases hp with hp | rfl
  ·exact b p hp
  ·exact a
 rw [List.flatMap_append]
 simp only [List.flatMap_cons,List.flatMap_nil,List.append_nil]
 exact h.sub (.cons (.tail .head) (.cons (.tail .head) (.cons (.tail .head) (Sub.same _))))
theorem fhello_ok {f : Nat} {F : Fw} {o : Opx} (h : St c w (opp o :: blk f 111 (fwc F) :: L)) {Q : Value -> World -> Prop}
  (hk : ∀ s w',s.pl = ⟨F.loc,F.rem,F.numFirst,0,1,[opl o],[]⟩ -> St c w' (blk f 111 (fwc F) :: sgp s :: L) -> Q (sgv s) w') : CALL PG 79 [.pointer (some ⟨f,0,none⟩),opxv o] w Q:=by
 refine call79 ?_
 unfold N79
 refine h.box (vs:=opx o) fun q w' h => ?_
 refine h.allocZ fun q2 w' h => ?_
 have h:=h.drew
 refine ⟨fun w => St c w [blk q 122 (opx o),blk f 111 (fwc F)],h.sub (.cons (.tail .head) (.cons (.tail (.tail .head)) .nil)),nilc ?_⟩
 refine St.rdsI (B:=f) 11 (nilc ?_)
 refine St.rdsI (B:=f) 12 (nilc ?_)
 refine St.rdsI2 (B:=f) 0 1 ?_
 refine RDS.bld ?_
 (repeat apply exi)
 apply exr
 refine St.rdsG (B:=q) ?_
 (repeat apply exi)
 apply exr
 refine h.lit (n:=1) 122 2 (([o] : List Opx).flatMap opx) fun q3 w' h => ?_
 refine ⟨_,fun _ h => h,h.sub (.cons (.tail (.tail .head)) (.cons (.tail (.tail (.tail .head))) .nil)),?_⟩
 refine sof_ok h (s:=⟨F.loc,F.rem,F.numFirst,0,1,none,0,[],none,0,[]⟩) (os:=[o]) (RdIn.own .head) (by simp) fun O k w' h => ?_
 (repeat apply exi)
 apply exr
 refine h.stG (B:=q2) fun w' h => ?_
 refine h.rdG (B:=q2) ?_
 (repeat apply exi)
 apply exr
 refine hk ⟨F.loc,F.rem,F.numFirst,0,1,O,k,[o],none,0,[]⟩ _ rfl ?_
 have h:=h.sub (show Sub _ (own 122 2 O 1 k (([o] : List Opx).flatMap opx) :: opp o :: blk f 111 (fwc F) :: L) from .cons (.tail .head) (.cons (.tail (.tail (.tail .head))) (.cons (.tail (.tail (.tail .head))) (Sub.same _).more.more.more)))
 exact (h.ownRows.ro2.roW fun w ⟨a,b⟩ => (⟨a,fun o' ho => by
  rw [List.mem_singleton] at ho
  subst ho
  exact b,Row.nil w none⟩ : SgAt ⟨F.loc,F.rem,F.numFirst,0,1,O,k,[o],none,0,[]⟩ w)).swap
theorem chello_ok {x f : Nat} {X : Cn} {F : Fw} {ps : List Pkt} (h : St c w (blk x 67 (cnc X) :: blk f 111 (fwc F) :: own 115 2 X.post X.postN X.postC (ps.flatMap pkc) :: bodP ps :: L)) (hn : X.postN <= 100000) (hf : F.fst = true) (hm : 0 <= X.mine /\ X.mine < 18446744073709551616)
  (hs : SgOk ⟨F.loc,F.rem,F.numFirst,0,1,[(1,keyB X.mine 0 false)],[]⟩) {Q : Value -> World -> Prop}
  (hk : ∀ O d p w',p.path = F.path -> PkEq p (encB ⟨F.loc,F.rem,F.numFirst,0,1,[(1,keyB X.mine 0 false)],[]⟩) -> St c w' (blk x 67 (cnc { X with post:=O,postN:=X.postN + 1,postC:=d }) :: blk f 111 (fwc F) :: own 115 2 O (X.postN + 1) d ((ps ++ [p]).flatMap pkc) :: bodP (ps ++ [p]) :: L) -> Q (.tuple #[]) w') :
  CALL PG 39 [.pointer (some ⟨x,0,none⟩),.pointer (some ⟨f,0,none⟩)] w Q:=by
 refine call39 ?_
 unfold N39
 refine nilc (h.rdI 27 ?_)
 refine RD.bld ?_
 (repeat apply exi)
 apply exr
 refine okey_ok h hm.1 hm.2 (by decide) (by decide) fun o w' ho h => ?_
 (repeat apply exi)
 apply exr
 refine h.allocZ fun q w' h => ?_
 refine h.stG (B:=q) fun w' h => nilc ?_
 refine h.rdB (B:=f) 14 ?_
 rw [hf]
 refine iff_ rfl ?_
 refine h.rdG (B:=q) ?_
 (repeat apply exi)
 apply exr
 have h:=h.sub (show Sub _ (opp o :: blk f 111 (fwc F) :: blk x 67 (cnc X) :: own 115 2 X.post X.postN X.postC (ps.flatMap pkc) :: bodP ps :: L) from .cons (.tail .head) (.cons (.tail (.tail .head)) (.cons (.tail .head) (.cons (.tail .head) (.cons (.tail .head) (Sub.same _).more)))))
 refine fhello_ok h fun s w' es h => ?_
 (repeat apply exi)
 apply exr
 rw [ho] at es
 rw [<- es] at hs hk
 have h:=h.sub (show Sub _ (blk x 67 (cnc X) :: blk f 111 (fwc F) :: own 115 2 X.post X.postN X.postC (ps.flatMap pkc) :: bodP ps :: sgp s :: L) from .cons (.tail (.tail .head)) (.cons .head (.cons (.tail .head) (.cons (.tail .head) (Sub.same _)))))
 refine send_ok h hn (SgIn.here .head) hs fun O d p w' e1 e2 h => ⟨rfl,?_⟩
 exact hk O d p _ e1 e2 (h.sub (.cons .head (.cons .head (.cons .head (.cons .head (Sub.same _).more)))))
end
end Go.Br
/- What the code of some functions says,as the core reads it; each reading is checked by the kernel. -/
set_option linter.unusedVariables false
set_option maxRecDepth 100000
namespace Go.Br
open Go Go.Proofs
def N14 (c : Int) (c1 : Int) (c2 : Int) (c3 : Int) (c4 : Int) (c5 : Int) (c6 : Int) (c7 : Int) (c8 : Int) (c9 : Int) (c10 : Int) (c11 : Int) (c12 : Int) (c13 : Int) (c14 : Int) (key : Int) (first : Int) (first1 : Int) (first2 : Int) (number : Int) (w : World) (Q : QP) : Prop :=
 RUNA PG (Instr.box 24 (.agg #[(.int .i64 c),(.int .i64 c1),(.int .i64 c2),(.int .i64 c3),(.int .i64 c4),(.int .i64 c5),(.int .i64 c6),(.int .i64 c7),(.int .i64 c8),(.int .i64 c9),(.int .i64 c10),(.int .i64 c11),(.int .i64 c12),(.int .i64 c13),(.int .i64 c14)])) w fun a4 w1 =>
 RUNA PG (Instr.box 51 (.agg #[(.int .i64 first),(.int .u16 first1),(.int .u16 first2)])) w1 fun a6 w2 =>
 RD PG (loadVar 24 a4) w2 fun v =>
 ∃ x11 : Int,∃ x11v1 : Int,∃ x11v2 : Int,∃ x11v3 : Int,∃ x11v4 : Int,∃ x11v5 : Int,∃ x11v6 : Int,∃ x11v7 : Int,∃ x11v8 : Int,∃ x11v9 : Int,∃ x11v10 : Int,∃ x11v11 : Int,∃ x11v12 : Int,∃ x11v13 : Int,∃ x11v14 : Int,v = (.agg #[(.int .i64 x11),(.int .i64 x11v1),(.int .i64 x11v2),(.int .i64 x11v3),(.int .i64 x11v4),(.int .i64 x11v5),(.int .i64 x11v6),(.int .i64 x11v7),(.int .i64 x11v8),(.int .i64 x11v9),(.int .i64 x11v10),(.int .i64 x11v11),(.int .i64 x11v12),(.int .i64 x11v13),(.int .i64 x11v14)]) /\
 (RD PG (loadVar 51 a6) w2 fun v1 =>
 ∃ x13 : Int,∃ x13v1 : Int,∃ x13v2 : Int,v1 = (.agg #[(.int .i64 x13),(.int .u16 x13v1),(.int .u16 x13v2)]) /\
 (CALL PG 37 [(.agg #[(.int .i64 x11),(.int .i64 x11v1),(.int .i64 x11v2),(.int .i64 x11v3),(.int .i64 x11v4),(.int .i64 x11v5),(.int .i64 x11v6),(.int .i64 x11v7),(.int .i64 x11v8),(.int .i64 x11v9),(.int .i64 x11v10),(.int .i64 x11v11),(.int .i64 x11v12),(.int .i64 x11v13),(.int .i64 x11v14)]),(.int .i64 1),(.int .u64 key),(.agg #[(.int .i64 x13),(.int .u16 x13v1),(.int .u16 x13v2)])] w2 fun v2 w3 =>
 ∃ x14 : Option Addr,v2 = (.pointer x14) /\
 (RD PG (loadVar 24 a4) w3 fun v3 =>
 ∃ x15 : Int,∃ x15v1 : Int,∃ x15v2 : Int,∃ x15v3 : Int,∃ x15v4 : Int,∃ x15v5 : Int,∃ x15v6 : Int,∃ x15v7 : Int,∃ x15v8 : Int,∃ x15v9 : Int,∃ x15v10 : Int,∃ x15v11 : Int,∃ x15v12 : Int,∃ x15v13 : Int,∃ x15v14 : Int,v3 = (.agg #[(.int .i64 x15),(.int .i64 x15v1),(.int .i64 x15v2),(.int .i64 x15v3),(.int .i64 x15v4),(.int .i64 x15v5),(.int .i64 x15v6),(.int .i64 x15v7),(.int .i64 x15v8),(.int .i64 x15v9),(.int .i64 x15v10),(.int .i64 x15v11),(.int .i64 x15v12),(.int .i64 x15v13),(.int .i64 x15v14)]) /\
 (RD PG (loadVar 51 a6) w3 fun v4 =>
 ∃ x16 : Int,∃ x16v1 : Int,∃ x16v2 : Int,v4 = (.agg #[(.int .i64 x16),(.int .u16 x16v1),(.int .u16 x16v2)]) /\
 (CALL PG 38 [(.agg #[(.int .i64 x15),(.int .i64 x15v1),(.int .i64 x15v2),(.int .i64 x15v3),(.int .i64 x15v4),(.int .i64 x15v5),(.int .i64 x15v6),(.int .i64 x15v7),(.int .i64 x15v8),(.int .i64 x15v9),(.int .i64 x15v10),(.int .i64 x15v11),(.int .i64 x15v12),(.int .i64 x15v13),(.int .i64 x15v14)]),(.int .i64 0),(.agg #[(.int .i64 x16),(.int .u16 x16v1),(.int .u16 x16v2)]),(.int .u32 number)] w3 fun v5 w4 =>
 ∃ x18 : Option Addr,v5 = (.pointer x18) /\
 (NILC x18 fun a20 =>
 RUNU PG (storeVar 4 (a20.add 14) (.bool true)) w4 fun w5 =>
 NILC x14 fun a24 =>
 RDL PG (loadVar 59 (a24.add 33)) w5 fun x26 x26N x26C =>
 RUNL PG (Instr.buildSlice 59 1 #[(0,(.pointer x18))]) w5 fun x28 x28N x28C w6 =>
 RUNL PG (Builtin.append_ #[59,59] 59 #[(.slice x26 x26N x26C),(.slice x28 x28N x28C)]) w6 fun x29 x29N x29C w7 =>
 NILC x14 fun a30 =>
 RUNU PG (storeVar 59 (a30.add 33) (.slice x29 x29N x29C)) w7 fun w8 =>
 CALL PG 39 [(.pointer x14),(.pointer x18)] w8 fun v6 w9 =>
 v6 = (.tuple #[]) /\
 (Q (.pointer x14) w9)))))))
theorem call14 {c : Int} {c1 : Int} {c2 : Int} {c3 : Int} {c4 : Int} {c5 : Int} {c6 : Int} {c7 : Int} {c8 : Int} {c9 : Int} {c10 : Int} {c11 : Int} {c12 : Int} {c13 : Int} {c14 : Int} {key : Int} {first : Int} {first1 : Int} {first2 : Int} {number : Int} {w : World} {Q : QP} (h_ : N14 c c1 c2 c3 c4 c5 c6 c7 c8 c9 c10 c11 c12 c13 c14 key first first1 first2 number w Q) : CALL PG 14 [(.agg #[(.int .i64 c),(.int .i64 c1),(.int .i64 c2),(.int .i64 c3),(.int .i64 c4),(.int .i64 c5),(.int .i64 c6),(.int .i64 c7),(.int .i64 c8),(.int .i64 c9),(.int .i64 c10),(.int .i64 c11),(.int .i64 c12),(.int .i64 c13),(.int .i64 c14)]),(.int .u64 key),(.agg #[(.int .i64 first),(.int .u16 first1),(.int .u16 first2)]),(.int .u32 number)] w Q:=calls_vq .nil tabOk Tryz.func14 (by kernel_rfl) h_
def N40 (x : Option Addr) (w : World) (Q : QP) : Prop :=
 NILC x fun a5 =>
 RDL PG (loadVar 65 (a5.add 49)) w fun x7 x7N x7C =>
 NILC x fun a9 =>
 RUNU PG (storeVar 65 (a9.add 49) (.slice none 0 0)) w fun w1 =>
 Q (.slice x7 x7N x7C) w1
theorem call40 {x : Option Addr} {w : World} {Q : QP} (h_ : N40 x w Q) : CALL PG 40 [(.pointer x)] w Q:=calls_vq .nil tabOk Tryz.func40 (by kernel_rfl) h_
end Go.Br
/- A connection is asked for: the whole call. -/
set_option linter.unusedVariables false
set_option linter.unusedSimpArgs false
set_option linter.unnecessarySimpa false
namespace Go.Br
open Go
attribute [local irreducible] Addr.add RD RDS RUN RUNU NILC LETB CALL CALLX CALLV
structure Nms where
 x : Nat
 f : Nat
 a : Nat
 b : Nat
 e : Nat
 m : Nat
 o : Nat
 r : Nat
 bb : Nat
 i : Nat
 s : Nat
 r2 : Nat
 b2 : Nat
 y : Nat
 ad : Nat
 bk : Nat
def askC (g : Cfg) (key path loc rem : Int) (n : Nms) (fA : Option Addr) (fC : Nat) (pA : Option Addr) (pN pC : Nat) : Cn:={ cnF g 1 key path loc rem n.m n.o n.i n.y n.ad with flows:=fA,flowsN:=1,flowsC:=fC,post:=pA,postN:=pN,postC:=pC }
def askF (path loc rem first : Int) (n : Nms) : Fw:={ fwN 0 path loc rem first n.a n.b n.e with fst:=true }
abbrev askP (g : Cfg) (path loc rem first : Int) (n : Nms) (fA : Option Addr) (fC : Nat) (L : List SA) : List SA :=
 blk n.f 111 (fwc (askF path loc rem first n)) :: own 99 1 fA 1 fC [.pointer (some ⟨n.f,0,none⟩)] :: fwP g n.a n.b n.e (cnP g n.m n.o n.r n.bb n.i n.s n.r2 n.b2 n.y n.ad n.bk (own 3 1 (some ⟨n.m,0,none⟩) 1 1 [.int .i64 path] :: L))
def askS (loc rem first key : Int) : SgP:=⟨loc,rem,first,0,1,[(1,keyB key 0 false)],[]⟩
theorem askS_ok {loc rem first key : Int} (h1 : 0 <= loc /\ loc < 65536) (h2 : 0 <= rem /\ rem < 65536) (h3 : 0 <= first /\ first < 4294967296) : SgOk (askS loc rem first key):=by
 refine ⟨h1,h2,h3,⟨Int.le_refl 0,show (0 : Int) < 4294967296 by decide⟩,⟨show (0 : Int) <= 1 by decide,show (1 : Int) <= 7 by decide⟩,fun o ho => ?_,?_,by simp [askS]⟩
 ·simp only [askS,List.mem_singleton] at ho
  subst ho
  refine ⟨⟨Int.le_refl 1,show (1 : Int) < 256 by decide⟩,?_⟩
  simp [keyB,beB_length]
 ·simp [askS,obs,obP,keyB,beB_length]
section
variable {c : Ctx} {w : World} {L R : List SA}
theorem St.addBod0 (h : St c w L) : St c w (bodP [] :: L):=h.new (F:=[]) (G:=[]) (Kp.refl w) (ro_p.2 ⟨rfl,by simp,fun w _ p hp => by cases hp⟩) (by simp) (by simp)
theorem ask_ok (h : St c w L) {g : Cfg} (hg : CfgOk g) {key path loc rem first : Int} (hkey : 0 <= key /\ key < 18446744073709551616) (h1 : 0 <= loc /\ loc < 65536) (h2 : 0 <= rem /\ rem < 65536) (h3 : 0 <= first /\ first < 4294967296) {Q : Value -> World -> Prop}
  (hk : ∀ n fA fC pA pC p w',p.path = path -> PkEq p (encB (askS loc rem first key)) -> St c w' (blk n.x 67 (cnc (askC g key path loc rem n fA fC pA 1 pC)) :: own 115 2 pA 1 pC (([p] : List Pkt).flatMap pkc) :: bodP [p] :: askP g path loc rem first n fA fC L) -> Q (.pointer (some ⟨n.x,0,none⟩)) w') :
  CALL PG 14 [cfgv g,.int .u64 key,.agg #[.int .i64 path,.int .u16 loc,.int .u16 rem],.int .u32 first] w Q:=by
 refine call14 ?_
 unfold N14
 refine h.box (vs:=cfg g) fun q w' h => ?_
 refine h.box fun q2 w' h => ?_
 refine h.rdG (B:=q) ?_
 (repeat apply exi)
 apply exr
 refine h.rdG (B:=q2) ?_
 (repeat apply exi)
 apply exr
 refine fresh_ok h hg fun x m o r bb i s r2 b2 y ad bk w' h => ?_
 (repeat apply exi)
 apply exr
 refine h.rdG (B:=q) ?_
 (repeat apply exi)
 apply exr
 refine h.rdG (B:=q2) ?_
 (repeat apply exi)
 apply exr
 refine flownew_ok h hg fun f a b e w' h => ?_
 (repeat apply exi)
 apply exr
 refine nilc (h.st (B:=f) 14 fun w' h => nilc ?_)
 refine h.rdL (B:=x) 33 ?_
 have h:=h.addOwnNil 99 1
 refine h.app1 huFlowps tiFlowp [.pointer (some ⟨f,0,none⟩)] .head (by intro v hv; simp at hv; rw [hv]; rfl) (show (0 + 1) * 8 <= 140737488355328 by decide) fun fA fC w' h => nilc ?_
 refine h.st (B:=x) 33 fun w' h => ?_
 have h:=(h.addOwnNil 115 2).addBod0
 have h:=h.sub (show Sub _ (blk x 67 (cnc (askC g key path loc rem ⟨x,f,a,b,e,m,o,r,bb,i,s,r2,b2,y,ad,bk⟩ fA fC none 0 0)) :: blk f 111 (fwc (askF path loc rem first ⟨x,f,a,b,e,m,o,r,bb,i,s,r2,b2,y,ad,bk⟩)) :: own 115 2 none 0 0 (([] : List Pkt).flatMap pkc) :: bodP [] ::
  own 99 1 fA 1 fC [.pointer (some ⟨f,0,none⟩)] :: fwP g a b e (cnP g m o r bb i s r2 b2 y ad bk (own 3 1 (some ⟨m,0,none⟩) 1 1 [.int .i64 path] :: L))) from
   .cons (.tail (.tail .head)) (.cons (.tail (.tail (.tail .head))) (.cons (.tail .head) (.cons .head (.cons .head (.cons .head (.cons .head (.cons .head (.cons .head (.cons .head (.cons .head (.cons .head (.cons .head (.cons .head (.cons .head (.cons .head (.cons .head (.cons .head (.cons .head ((Sub.same _).more.more))))))))))))))))))))
 refine chello_ok h (show 0 <= 100000 by decide) rfl hkey (askS_ok h1 h2 h3) fun O d p w' e1 e2 h => ⟨rfl,?_⟩
 refine hk ⟨x,f,a,b,e,m,o,r,bb,i,s,r2,b2,y,ad,bk⟩ fA fC O d p _ e1 e2 ?_
 exact h.sub (.cons .head (.cons (.tail .head) (.cons (.tail .head) (Sub.same _))))
theorem cpost_ok {x : Nat} {X : Cn} (h : St c w (blk x 67 (cnc X) :: L)) {Q : Value -> World -> Prop} (hk : ∀ w',St c w' (blk x 67 (cnc { X with post:=none,postN:=0,postC:=0 }) :: L) -> Q (.slice X.post X.postN X.postC) w') : CALL PG 40 [.pointer (some ⟨x,0,none⟩)] w Q:=by
 refine call40 ?_
 unfold N40
 refine nilc (h.rdL 49 (nilc ?_))
 refine h.st 49 fun w' h => ?_
 exact hk _ h
end
end Go.Br
