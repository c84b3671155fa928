/- ConnAns, ConnAns2, ConnOn, ArrEq -/
import Derived.Test.YtmglifmopjedbaaGreatBrSeat
import Derived.Test.YtmglifmopjedbaaGreatJConnAsk2
import Derived.Test.YtmglifmopjedbaaGreatJOptRead
import Derived.Test.YtmglifmopjedbaaGreatSession
import Derived.Test.YtmglifmopjedbaaGreatJHostLaw
/- What the code of some functions says,as the core reads it; each reading is checked by the kernel. -/
set_option linter.unusedVariables false
set_option maxRecDepth 100000
namespace Go.Br
open Go Go.Proofs
def N83 (f : Option Addr) (seq : Int) (w : World) (Q : QP) : Prop :=
 NILC f fun a5 =>
 RUNU PG (storeVar 39 ((a5.add 0).add 0) (.int .i64 2)) w fun w1 =>
 NILC f fun a11 =>
 RUNU PG (storeVar 26 ((a11.add 0).add 4) (.int .u32 (IntKind.u32.wrap (seq + 1)))) w1 fun w2 =>
 Q (.tuple #[]) w2
theorem call83 {f : Option Addr} {seq : Int} {w : World} {Q : QP} (h_ : N83 f seq w Q) : CALL PG 83 [(.pointer f),(.int .u32 seq)] w Q:=calls_vq .nil tabOk Tryz.func83 (by kernel_rfl) h_
def N84 (x : Option Addr) (f : Option Addr) (w : World) (Q : QP) : Prop :=
 CALL PG 131 [(.pointer f)] w fun v w1 =>
 ∃ x7 : Int,∃ x7v1 : Int,∃ x7v2 : Int,∃ x7v3 : Int,∃ x7v4 : Int,∃ (x7v5 : Option Addr) (x7N x7C : Nat),∃ (x7v6 : Option Addr) (x7N1 x7C1 : Nat),v = (.agg #[(.int .u16 x7),(.int .u16 x7v1),(.int .u32 x7v2),(.int .u32 x7v3),(.int .u8 x7v4),(.slice x7v5 x7N x7C),(.slice x7v6 x7N1 x7C1)]) /\
 (RUNA PG (Instr.alloc 118 true (.tuple #[])) w1 fun a4 w2 =>
 RUNU PG (storeVar 118 a4 (.agg #[(.int .u16 x7),(.int .u16 x7v1),(.int .u32 x7v2),(.int .u32 x7v3),(.int .u8 x7v4),(.slice x7v5 x7N x7C),(.slice x7v6 x7N1 x7C1)])) w2 fun w3 =>
 NILC f fun a9 =>
 RDB PG (loadVar 4 (a9.add 14)) w3 fun x11 =>
 IFB x11
 (∃ S : World -> Prop,S (w3.drew) /\
 (RDS PG (loadVar 118 a4) S fun v1 =>
 ∃ x14 : Int,∃ x14v1 : Int,∃ x14v2 : Int,∃ x14v3 : Int,∃ x14v4 : Int,∃ (x14v5 : Option Addr) (x14N x14C : Nat),∃ (x14v6 : Option Addr) (x14N1 x14C1 : Nat),v1 = (.agg #[(.int .u16 x14),(.int .u16 x14v1),(.int .u32 x14v2),(.int .u32 x14v3),(.int .u8 x14v4),(.slice x14v5 x14N x14C),(.slice x14v6 x14N1 x14C1)]) /\
 (NILC x fun a16 =>
 RDSI PG (loadVar 25 (a16.add 28)) .u64 S fun x18 =>
 NILC x fun a20 =>
 RDSI PG (loadVar 25 (a20.add 27)) .u64 S fun x22 =>
 RDS PG (loadVar 118 a4) S fun v2 =>
 ∃ x24 : Int,∃ x24v1 : Int,∃ x24v2 : Int,∃ x24v3 : Int,∃ x24v4 : Int,∃ (x24v5 : Option Addr) (x24N x24C : Nat),∃ (x24v6 : Option Addr) (x24N1 x24C1 : Nat),v2 = (.agg #[(.int .u16 x24),(.int .u16 x24v1),(.int .u32 x24v2),(.int .u32 x24v3),(.int .u8 x24v4),(.slice x24v5 x24N x24C),(.slice x24v6 x24N1 x24C1)]) /\
 (NILC x fun a26 =>
 RDSI PG (loadVar 25 (a26.add 27)) .u64 S fun x28 =>
 RDS PG (Instr.build 128 #[(0,(.int .u64 x28))]) S fun v3 =>
 ∃ x29 : Int,∃ x29v1 : Bool,∃ x29v2 : Int,v3 = (.agg #[(.int .u64 x29),(.bool x29v1),(.int .u64 x29v2)]) /\
 (CALL PG 133 [(.int .u64 x18),(.int .u64 x22)] (w3.drew) fun v4 w4 =>
 ∃ x23 : Int,∃ x23v1 : Int,v4 = (.agg #[(.int .u64 x23),(.int .u64 x23v1)]) /\
 (∃ S1 : World -> Prop,(∀ x,S1 x -> S x) /\ S1 w4 /\
 (CALL PG 132 [(.agg #[(.int .u64 x23),(.int .u64 x23v1)]),(.agg #[(.int .u16 x24),(.int .u16 x24v1),(.int .u32 x24v2),(.int .u32 x24v3),(.int .u8 x24v4),(.slice x24v5 x24N x24C),(.slice x24v6 x24N1 x24C1)]),(.agg #[(.int .u64 x29),(.bool x29v1),(.int .u64 x29v2)])] w4 fun v5 w5 =>
 ∃ x30 : Int,∃ (x30v1 : Option Addr) (x30N x30C : Nat),v5 = (.agg #[(.int .u8 x30),(.slice x30v1 x30N x30C)]) /\
 (∃ S2 : World -> Prop,(∀ x,S2 x -> S1 x) /\ S2 w5 /\
 (RUNL PG (Instr.buildSlice 116 1 #[(0,(.agg #[(.int .u8 x30),(.slice x30v1 x30N x30C)]))]) w5 fun x31 x31N x31C w6 =>
 ∃ S3 : World -> Prop,(∀ x,S3 x -> S2 x) /\ S3 w6 /\
 (CALL PG 130 [(.agg #[(.int .u16 x14),(.int .u16 x14v1),(.int .u32 x14v2),(.int .u32 x14v3),(.int .u8 x14v4),(.slice x14v5 x14N x14C),(.slice x14v6 x14N1 x14C1)]),(.slice x31 x31N x31C)] w6 fun v6 w7 =>
 ∃ x32 : Int,∃ x32v1 : Int,∃ x32v2 : Int,∃ x32v3 : Int,∃ x32v4 : Int,∃ (x32v5 : Option Addr) (x32N x32C : Nat),∃ (x32v6 : Option Addr) (x32N1 x32C1 : Nat),v6 = (.agg #[(.int .u16 x32),(.int .u16 x32v1),(.int .u32 x32v2),(.int .u32 x32v3),(.int .u8 x32v4),(.slice x32v5 x32N x32C),(.slice x32v6 x32N1 x32C1)]) /\
 (CALL PG 78 [(.pointer x),(.pointer f),(.agg #[(.int .u16 x32),(.int .u16 x32v1),(.int .u32 x32v2),(.int .u32 x32v3),(.int .u8 x32v4),(.slice x32v5 x32N x32C),(.slice x32v6 x32N1 x32C1)])] w7 fun v7 w8 =>
 v7 = (.tuple #[]) /\
 (Q (.tuple #[]) w8))))))))))))
 (∃ S4 : World -> Prop,S4 (w3.drew) /\
 (NILC x fun a35 =>
 RDSI PG (loadVar 26 ((a35.add 0).add 8)) .u32 S4 fun x38 =>
 NILC f fun a40 =>
 RDSI PG (loadVar 26 (a40.add 15)) .u32 S4 fun x42 =>
 NILC f fun a44 =>
 RDSI PG (loadVar 3 (a44.add 9)) .i64 S4 fun x46 =>
 NILC f fun a49 =>
 RDSB PG (loadVar 4 (a49.add 13)) S4 fun x51 =>
 RDS PG (Instr.build 135 #[(0,(.int .u32 x38)),(1,(.int .u32 x42)),(2,(.int .u8 (IntKind.u8.wrap x46))),(3,(.bool x51))]) S4 fun v8 =>
 ∃ x52 : Int,∃ x52v1 : Int,∃ x52v2 : Int,∃ x52v3 : Bool,∃ x52v4 : Bool,∃ x52v5 : Int,v8 = (.agg #[(.int .u32 x52),(.int .u32 x52v1),(.int .u8 x52v2),(.bool x52v3),(.bool x52v4),(.int .u64 x52v5)]) /\
 (RUNA PG (Instr.alloc 135 true (.tuple #[])) (w3.drew) fun a5 w9 =>
 ∃ S5 : World -> Prop,(∀ x,S5 x -> S4 x) /\ S5 w9 /\
 (RUNU PG (storeVar 135 a5 (.agg #[(.int .u32 x52),(.int .u32 x52v1),(.int .u8 x52v2),(.bool x52v3),(.bool x52v4),(.int .u64 x52v5)])) w9 fun w10 =>
 ∃ S6 : World -> Prop,S6 (w10.drew) /\
 (RDS PG (loadVar 118 a4) S6 fun v9 =>
 ∃ x55 : Int,∃ x55v1 : Int,∃ x55v2 : Int,∃ x55v3 : Int,∃ x55v4 : Int,∃ (x55v5 : Option Addr) (x55N x55C : Nat),∃ (x55v6 : Option Addr) (x55N1 x55C1 : Nat),v9 = (.agg #[(.int .u16 x55),(.int .u16 x55v1),(.int .u32 x55v2),(.int .u32 x55v3),(.int .u8 x55v4),(.slice x55v5 x55N x55C),(.slice x55v6 x55N1 x55C1)]) /\
 (NILC x fun a57 =>
 RDS PG (loadVar 56 (a57.add 0)) S6 fun v10 =>
 ∃ x59 : Int,∃ x59v1 : Int,∃ x59v2 : Int,∃ x59v3 : Int,∃ x59v4 : Int,∃ x59v5 : Int,∃ x59v6 : Int,∃ x59v7 : Int,∃ x59v8 : Int,v10 = (.agg #[(.int .u64 x59),(.int .u64 x59v1),(.int .u64 x59v2),(.int .u64 x59v3),(.int .u64 x59v4),(.int .u64 x59v5),(.int .u64 x59v6),(.int .u64 x59v7),(.int .u32 x59v8)]) /\
 (NILC f fun a61 =>
 RDSI PG (loadVar 26 (a61.add 16)) .u32 S6 fun x63 =>
 NILC f fun a65 =>
 RDSI PG (loadVar 26 (a65.add 15)) .u32 S6 fun x67 =>
 RDS PG (loadVar 118 a4) S6 fun v11 =>
 ∃ x69 : Int,∃ x69v1 : Int,∃ x69v2 : Int,∃ x69v3 : Int,∃ x69v4 : Int,∃ (x69v5 : Option Addr) (x69N x69C : Nat),∃ (x69v6 : Option Addr) (x69N1 x69C1 : Nat),v11 = (.agg #[(.int .u16 x69),(.int .u16 x69v1),(.int .u32 x69v2),(.int .u32 x69v3),(.int .u8 x69v4),(.slice x69v5 x69N x69C),(.slice x69v6 x69N1 x69C1)]) /\
 (RDS PG (loadVar 135 a5) S6 fun v12 =>
 ∃ x70 : Int,∃ x70v1 : Int,∃ x70v2 : Int,∃ x70v3 : Bool,∃ x70v4 : Bool,∃ x70v5 : Int,v12 = (.agg #[(.int .u32 x70),(.int .u32 x70v1),(.int .u8 x70v2),(.bool x70v3),(.bool x70v4),(.int .u64 x70v5)]) /\
 (CALL PG 135 [(.agg #[(.int .u64 x59),(.int .u64 x59v1),(.int .u64 x59v2),(.int .u64 x59v3),(.int .u64 x59v4),(.int .u64 x59v5),(.int .u64 x59v6),(.int .u64 x59v7),(.int .u32 x59v8)]),(.int .u32 x63),(.int .u32 x67)] (w10.drew) fun v13 w11 =>
 ∃ x68 : Int,∃ x68v1 : Int,v13 = (.agg #[(.int .u64 x68),(.int .u64 x68v1)]) /\
 (∃ S7 : World -> Prop,(∀ x,S7 x -> S6 x) /\ S7 w11 /\
 (CALL PG 134 [(.agg #[(.int .u64 x68),(.int .u64 x68v1)]),(.agg #[(.int .u16 x69),(.int .u16 x69v1),(.int .u32 x69v2),(.int .u32 x69v3),(.int .u8 x69v4),(.slice x69v5 x69N x69C),(.slice x69v6 x69N1 x69C1)]),(.agg #[(.int .u32 x70),(.int .u32 x70v1),(.int .u8 x70v2),(.bool x70v3),(.bool x70v4),(.int .u64 x70v5)])] w11 fun v14 w12 =>
 ∃ x71 : Int,∃ (x71v1 : Option Addr) (x71N x71C : Nat),v14 = (.agg #[(.int .u8 x71),(.slice x71v1 x71N x71C)]) /\
 (∃ S8 : World -> Prop,(∀ x,S8 x -> S7 x) /\ S8 w12 /\
 (RUNL PG (Instr.buildSlice 116 1 #[(0,(.agg #[(.int .u8 x71),(.slice x71v1 x71N x71C)]))]) w12 fun x72 x72N x72C w13 =>
 ∃ S9 : World -> Prop,(∀ x,S9 x -> S8 x) /\ S9 w13 /\
 (CALL PG 130 [(.agg #[(.int .u16 x55),(.int .u16 x55v1),(.int .u32 x55v2),(.int .u32 x55v3),(.int .u8 x55v4),(.slice x55v5 x55N x55C),(.slice x55v6 x55N1 x55C1)]),(.slice x72 x72N x72C)] w13 fun v15 w14 =>
 ∃ x73 : Int,∃ x73v1 : Int,∃ x73v2 : Int,∃ x73v3 : Int,∃ x73v4 : Int,∃ (x73v5 : Option Addr) (x73N x73C : Nat),∃ (x73v6 : Option Addr) (x73N1 x73C1 : Nat),v15 = (.agg #[(.int .u16 x73),(.int .u16 x73v1),(.int .u32 x73v2),(.int .u32 x73v3),(.int .u8 x73v4),(.slice x73v5 x73N x73C),(.slice x73v6 x73N1 x73C1)]) /\
 (CALL PG 78 [(.pointer x),(.pointer f),(.agg #[(.int .u16 x73),(.int .u16 x73v1),(.int .u32 x73v2),(.int .u32 x73v3),(.int .u8 x73v4),(.slice x73v5 x73N x73C),(.slice x73v6 x73N1 x73C1)])] w14 fun v16 w15 =>
 v16 = (.tuple #[]) /\
 (Q (.tuple #[]) w15)))))))))))))))))
theorem call84 {x : Option Addr} {f : Option Addr} {w : World} {Q : QP} (h_ : N84 x f w Q) : CALL PG 84 [(.pointer x),(.pointer f)] w Q:=calls_vq .nil tabOk Tryz.func84 (by kernel_rfl) h_
def N131 (f : Option Addr) (w : World) (Q : QP) : Prop :=
 RUNA PG (Instr.alloc 118 true (.tuple #[])) w fun a2 w1 =>
 NILC f fun a4 =>
 RDI PG (loadVar 49 (a4.add 11)) .u16 (w1.drew) fun x6 =>
 NILC f fun a8 =>
 RDI PG (loadVar 49 (a8.add 12)) .u16 (w1.drew) fun x10 =>
 NILC f fun a12 =>
 RDI PG (loadVar 26 ((a12.add 0).add 1)) .u32 (w1.drew) fun x15 =>
 NILC f fun a17 =>
 RDI PG (loadVar 26 ((a17.add 0).add 4)) .u32 (w1.drew) fun x20 =>
 RD PG (Instr.build 118 #[(0,(.int .u16 x6)),(1,(.int .u16 x10)),(2,(.int .u32 x15)),(3,(.int .u32 x20)),(4,(.int .u8 3))]) (w1.drew) fun v =>
 ∃ x21 : Int,∃ x21v1 : Int,∃ x21v2 : Int,∃ x21v3 : Int,∃ x21v4 : Int,∃ (x21v5 : Option Addr) (x21N x21C : Nat),∃ (x21v6 : Option Addr) (x21N1 x21C1 : Nat),v = (.agg #[(.int .u16 x21),(.int .u16 x21v1),(.int .u32 x21v2),(.int .u32 x21v3),(.int .u8 x21v4),(.slice x21v5 x21N x21C),(.slice x21v6 x21N1 x21C1)]) /\
 (RUNU PG (storeVar 118 a2 (.agg #[(.int .u16 x21),(.int .u16 x21v1),(.int .u32 x21v2),(.int .u32 x21v3),(.int .u8 x21v4),(.slice x21v5 x21N x21C),(.slice x21v6 x21N1 x21C1)])) (w1.drew) fun w2 =>
 RD PG (loadVar 118 a2) w2 fun v2 =>
 ∃ r : Int,∃ r1 : Int,∃ r2 : Int,∃ r3 : Int,∃ r4 : Int,∃ (r5 : Option Addr) (rN rC : Nat),∃ (r6 : Option Addr) (rN1 rC1 : Nat),v2 = (.agg #[(.int .u16 r),(.int .u16 r1),(.int .u32 r2),(.int .u32 r3),(.int .u8 r4),(.slice r5 rN rC),(.slice r6 rN1 rC1)]) /\
 (Q (.agg #[(.int .u16 r),(.int .u16 r1),(.int .u32 r2),(.int .u32 r3),(.int .u8 r4),(.slice r5 rN rC),(.slice r6 rN1 rC1)]) w2))
theorem call131 {f : Option Addr} {w : World} {Q : QP} (h_ : N131 f w Q) : CALL PG 131 [(.pointer f)] w Q:=calls_vq .nil tabOk Tryz.func131 (by kernel_rfl) h_
end Go.Br
/- A connection that was asked for is answered: the path's numbers,the answer's segment. -/
set_option linter.unusedVariables false
set_option linter.unusedSimpArgs false
set_option linter.unnecessarySimpa false
namespace Go.Br
open Go
instance biConnAnsa (x0 : Int) : Bld PG (Instr.build 128 #[(0,.int .u64 x0)]) (.agg #[.int .u64 x0,.bool false,.int .u64 0]):=⟨fun w => by kernel_rfl⟩
instance biConnAnsc : Zro PG 118 7 64 (.agg #[.int .u16 0,.int .u16 0,.int .u32 0,.int .u32 0,.int .u8 0,.slice none 0 0,.slice none 0 0]):=⟨tiOf (by kernel_rfl)⟩
instance biConnAnse (x0 : Int) (x1 : Int) (x2 : Int) (x3 : Int) (x4 : Int) : Bld PG (Instr.build 118 #[(0,.int .u16 x0),(1,.int .u16 x1),(2,.int .u32 x2),(3,.int .u32 x3),(4,.int .u8 x4)]) (.agg #[.int .u16 x0,.int .u16 x1,.int .u32 x2,.int .u32 x3,.int .u8 x4,.slice none 0 0,.slice none 0 0]):=⟨fun w => by kernel_rfl⟩
attribute [local irreducible] Addr.add RD RDS RUN RUNU NILC LETB CALL CALLX CALLV
def ans0 (F : Fw) : SgP:=⟨F.loc,F.rem,F.numFirst,F.numWait,3,[],[]⟩
def ansT (F : Fw) (mine theirs : Int) : Int:=tagS (pair1 theirs mine ansB) (pair2 theirs mine ansB) (ans0 F) (1,keyB mine 0 true)
def ansS (F : Fw) (mine theirs : Int) : SgP:=⟨F.loc,F.rem,F.numFirst,F.numWait,3,[(1,keyB mine (ansT F mine theirs) true)],[]⟩
theorem ansT_range (F : Fw) (mine theirs : Int) : 0 <= ansT F mine theirs /\ ansT F mine theirs < 18446744073709551616:=sipS_range _ _ _
structure FwOk (F : Fw) : Prop where
 loc : 0 <= F.loc /\ F.loc < 65536
 rem : 0 <= F.rem /\ F.rem < 65536
 first : 0 <= F.numFirst /\ F.numFirst < 4294967296
 wait : 0 <= F.numWait /\ F.numWait < 4294967296
theorem ans0_ok {F : Fw} (h : FwOk F) : SgOk (ans0 F):=⟨h.loc,h.rem,h.first,h.wait,⟨show (0 : Int) <= 3 by decide,show (3 : Int) <= 7 by decide⟩,fun o ho => by simp [ans0] at ho,by simp [ans0,obs],by simp [ans0]⟩
theorem ansS_ok {F : Fw} (h : FwOk F) {mine theirs : Int} : SgOk (ansS F mine theirs):=by
 refine ⟨h.loc,h.rem,h.first,h.wait,⟨show (0 : Int) <= 3 by decide,show (3 : Int) <= 7 by decide⟩,fun o ho => ?_,?_,by simp [ansS]⟩
 ·simp only [ansS,List.mem_singleton] at ho
  subst ho
  refine ⟨⟨Int.le_refl 1,show (1 : Int) < 256 by decide⟩,?_⟩
  simp [keyB,beB_length]
 ·simp [ansS,obs,obP,keyB,beB_length]
section
variable {c : Ctx} {w : World} {L R : List SA}
theorem asked_ok {f : Nat} {F : Fw} {seq : Int} (h : St c w (blk f 111 (fwc F) :: L)) {Q : Value -> World -> Prop} (hk : ∀ w',St c w' (blk f 111 (fwc { F with numState:=2,numWait:=IntKind.u32.wrap (seq + 1) }) :: L) -> Q (.tuple #[]) w') : CALL PG 83 [.pointer (some ⟨f,0,none⟩),.int .u32 seq] w Q:=by
 refine call83 ?_
 unfold N83
 refine nilc (h.st2 (B:=f) 0 0 fun w' h => nilc ?_)
 refine h.st2 (B:=f) 0 4 fun w' h => ?_
 exact hk _ h
theorem freply_ok {f : Nat} {F : Fw} (h : St c w (blk f 111 (fwc F) :: L)) {Q : Value -> World -> Prop} (hk : ∀ w',St c w' (blk f 111 (fwc F) :: L) -> Q (sgv ⟨F.loc,F.rem,F.numFirst,F.numWait,3,none,0,[],none,0,[]⟩) w') : CALL PG 131 [.pointer (some ⟨f,0,none⟩)] w Q:=by
 refine call131 ?_
 unfold N131
 refine h.allocZ fun q w' h => ?_
 have h:=h.drew
 refine nilc (h.rdI (B:=f) 11 (nilc (h.rdI (B:=f) 12 (nilc (h.rdI2 (B:=f) 0 1 (nilc (h.rdI2 (B:=f) 0 4 ?_)))))))
 refine RD.bld ?_
 (repeat apply exi)
 apply exr
 refine h.stG (B:=q) fun w' h => ?_
 refine h.rdG (B:=q) ?_
 (repeat apply exi)
 apply exr
 exact hk _ h.drop
theorem creply1_ok {x f : Nat} {X : Cn} {F : Fw} {ps : List Pkt} (h : St c w (blk x 67 (cnc X) :: blk f 111 (fwc F) :: own 115 2 X.post X.postN X.postC (ps.flatMap pkc) :: bodP ps :: L)) (hn : X.postN <= 100000) (hf : F.fst = true) (ok : FwOk F) (hm : 0 <= X.mine /\ X.mine < 18446744073709551616) {Q : Value -> World -> Prop}
  (hk : ∀ O d p w',p.path = F.path -> PkEq p (encB (ansS F X.mine X.theirs)) -> St c w' (blk x 67 (cnc { X with post:=O,postN:=X.postN + 1,postC:=d }) :: blk f 111 (fwc F) :: own 115 2 O (X.postN + 1) d ((ps ++ [p]).flatMap pkc) :: bodP (ps ++ [p]) :: L) -> Q (.tuple #[]) w') :
  CALL PG 84 [.pointer (some ⟨x,0,none⟩),.pointer (some ⟨f,0,none⟩)] w Q:=by
 have hs:=ansS_ok ok (mine:=X.mine) (theirs:=X.theirs)
 have hs0 : SgOk (Sg.pl ⟨F.loc,F.rem,F.numFirst,F.numWait,3,none,0,[],none,0,[]⟩):=ans0_ok ok
 refine call84 ?_
 unfold N84
 refine freply_ok (h.sub (show Sub _ (blk f 111 (fwc F) :: blk x 67 (cnc X) :: own 115 2 X.post X.postN X.postC (ps.flatMap pkc) :: bodP ps :: L) from (.cons (.tail .head) (.cons .head (.cons .head (.cons .head ((Sub.same _)))))))) fun w' h => ?_
 (repeat apply exi)
 apply exr
 refine h.allocZ fun q w' h => ?_
 refine h.stG (B:=q) fun w' h => nilc ?_
 refine h.rdB (B:=f) 14 (ift hf ?_)
 have h : St c w' (blk q 118 (sgc ⟨F.loc,F.rem,F.numFirst,F.numWait,3,none,0,[],none,0,[]⟩) :: blk f 111 (fwc F) :: blk x 67 (cnc X) :: own 115 2 X.post X.postN X.postC (ps.flatMap pkc) :: bodP ps :: L):=h
 have h:=h.drew
 refine ⟨fun w => St c w [blk q 118 (sgc ⟨F.loc,F.rem,F.numFirst,F.numWait,3,none,0,[],none,0,[]⟩),blk x 67 (cnc X)],h.sub (.cons .head (.cons (.tail .head) (.nil))),?_⟩
 refine St.rdsG (B:=q) ?_
 (repeat apply exi)
 apply exr
 refine nilc (St.rdsI (B:=x) 28 (nilc (St.rdsI (B:=x) 27 ?_)))
 refine St.rdsG (B:=q) ?_
 (repeat apply exi)
 apply exr
 refine nilc (St.rdsI (B:=x) 27 ?_)
 refine RDS.bld ?_
 (repeat apply exi)
 apply exr
 refine handshake_ok h fun w' h => ?_
 generalize hp1 : pair1 X.theirs X.mine ansB = v1
 generalize hp2 : pair2 X.theirs X.mine ansB = v2
 (repeat apply exi)
 apply exr
 refine ⟨_,fun _ h => h,h.sub (.cons .head (.cons (.tail .head) (.nil))),?_⟩
 have hsi : ∀ {L' : List SA},SgIn L' ⟨F.loc,F.rem,F.numFirst,F.numWait,3,none,0,[],none,0,[]⟩:=fun c w _ => (⟨Row.nil w none,fun o ho => (List.not_mem_nil ho).elim,Row.nil w none⟩ : SgAt ⟨F.loc,F.rem,F.numFirst,F.numWait,3,none,0,[],none,0,[]⟩ w)
 refine mackey_ok h (s:=⟨F.loc,F.rem,F.numFirst,F.numWait,3,none,0,[],none,0,[]⟩) hsi hs0 hm fun o w' eo h => ?_
 have eo2 : opl o = (1,keyB X.mine (ansT F X.mine X.theirs) true):=by rw [eo,ansT,hp1,hp2]; rfl
 clear eo hp1 hp2
 (repeat apply exi)
 apply exr
 refine ⟨_,fun _ h => h,h.sub (.cons (.tail .head) (.cons (.tail (.tail .head)) (.nil))),?_⟩
 refine h.lit (n:=1) 122 2 (([o] : List Opx).flatMap opx) fun q3 w' h => ?_
 refine ⟨_,fun _ h => h,h.sub (.cons (.tail (.tail .head)) (.cons (.tail (.tail (.tail .head))) (.nil))),?_⟩
 refine sof_ok h (s:=⟨F.loc,F.rem,F.numFirst,F.numWait,3,none,0,[],none,0,[]⟩) (os:=[o]) (RdIn.own .head) (by simp) fun O k w' h => ?_
 (repeat apply exi)
 apply exr
 have h:=h.sub (show Sub _ (own 122 2 O 1 k (([o] : List Opx).flatMap opx) :: opp o :: blk x 67 (cnc X) :: blk f 111 (fwc F) :: own 115 2 X.post X.postN X.postC (ps.flatMap pkc) :: bodP ps :: L) from (.cons .head (.cons (.tail .head) (.cons (.tail (.tail (.tail .head))) (.cons (.tail (.tail .head)) (.cons (.tail (.tail .head)) (.cons (.tail (.tail .head)) ((Sub.same _).more.more))))))))
 have h:=(h.ownRows.ro2.roW fun w ⟨a,b⟩ => (⟨a,fun o' ho => by
  rw [List.mem_singleton] at ho
  subst ho
  exact b,Row.nil w none⟩ : SgAt ⟨F.loc,F.rem,F.numFirst,F.numWait,3,O,k,[o],none,0,[]⟩ w))
 have e : Sg.pl ⟨F.loc,F.rem,F.numFirst,F.numWait,3,O,k,[o],none,0,[]⟩ = ansS F X.mine X.theirs:=by
  show (⟨F.loc,F.rem,F.numFirst,F.numWait,3,[opl o],[]⟩ : SgP) = _
  rw [eo2]
  rfl
 rw [<- e] at hs hk
 have h:=h.sub (show Sub _ (blk x 67 (cnc X) :: blk f 111 (fwc F) :: own 115 2 X.post X.postN X.postC (ps.flatMap pkc) :: bodP ps :: sgp ⟨F.loc,F.rem,F.numFirst,F.numWait,3,O,k,[o],none,0,[]⟩ :: L) from (.cons (.tail .head) (.cons (.tail .head) (.cons (.tail .head) (.cons (.tail .head) (.cons .head ((Sub.same _))))))))
 refine send_ok h hn (SgIn.here .head) hs fun O d p w' e1 e2 h => ⟨rfl,?_⟩
 exact hk O d p _ e1 e2 (h.sub (.cons .head (.cons .head (.cons .head (.cons .head ((Sub.same _).more))))))
end
end Go.Br
/- What the code of some functions says,as the core reads it; each reading is checked by the kernel. -/
set_option linter.unusedVariables false
set_option maxRecDepth 100000
namespace Go.Br
open Go Go.Proofs
def N44 (c : Int) (c1 : Int) (c2 : Int) (c3 : Int) (c4 : Int) (c5 : Int) (c6 : Int) (c7 : Int) (c8 : Int) (c9 : Int) (c10 : Int) (c11 : Int) (c12 : Int) (c13 : Int) (c14 : Int) (key : Int) (first : Int) (first1 : Int) (first2 : Int) (number : Int) (s : Int) (s1 : Int) (s2 : Int) (s3 : Int) (s4 : Int) (s5 : Option Addr) (sN sC : Nat) (s6 : Option Addr) (sN1 sC1 : Nat) (client : Int) (w : World) (Q : QP) : Prop :=
 RUNA PG (Instr.box 24 (.agg #[(.int .i64 c),(.int .i64 c1),(.int .i64 c2),(.int .i64 c3),(.int .i64 c4),(.int .i64 c5),(.int .i64 c6),(.int .i64 c7),(.int .i64 c8),(.int .i64 c9),(.int .i64 c10),(.int .i64 c11),(.int .i64 c12),(.int .i64 c13),(.int .i64 c14)])) w fun a6 w1 =>
 RUNA PG (Instr.box 51 (.agg #[(.int .i64 first),(.int .u16 first1),(.int .u16 first2)])) w1 fun a8 w2 =>
 RUNA PG (Instr.box 118 (.agg #[(.int .u16 s),(.int .u16 s1),(.int .u32 s2),(.int .u32 s3),(.int .u8 s4),(.slice s5 sN sC),(.slice s6 sN1 sC1)])) w2 fun a10 w3 =>
 RD PG (loadVar 24 a6) w3 fun v =>
 ∃ x15 : Int,∃ x15v1 : Int,∃ x15v2 : Int,∃ x15v3 : Int,∃ x15v4 : Int,∃ x15v5 : Int,∃ x15v6 : Int,∃ x15v7 : Int,∃ x15v8 : Int,∃ x15v9 : Int,∃ x15v10 : Int,∃ x15v11 : Int,∃ x15v12 : Int,∃ x15v13 : Int,∃ x15v14 : Int,v = (.agg #[(.int .i64 x15),(.int .i64 x15v1),(.int .i64 x15v2),(.int .i64 x15v3),(.int .i64 x15v4),(.int .i64 x15v5),(.int .i64 x15v6),(.int .i64 x15v7),(.int .i64 x15v8),(.int .i64 x15v9),(.int .i64 x15v10),(.int .i64 x15v11),(.int .i64 x15v12),(.int .i64 x15v13),(.int .i64 x15v14)]) /\
 (RD PG (loadVar 51 a8) w3 fun v1 =>
 ∃ x17 : Int,∃ x17v1 : Int,∃ x17v2 : Int,v1 = (.agg #[(.int .i64 x17),(.int .u16 x17v1),(.int .u16 x17v2)]) /\
 (CALL PG 37 [(.agg #[(.int .i64 x15),(.int .i64 x15v1),(.int .i64 x15v2),(.int .i64 x15v3),(.int .i64 x15v4),(.int .i64 x15v5),(.int .i64 x15v6),(.int .i64 x15v7),(.int .i64 x15v8),(.int .i64 x15v9),(.int .i64 x15v10),(.int .i64 x15v11),(.int .i64 x15v12),(.int .i64 x15v13),(.int .i64 x15v14)]),(.int .i64 2),(.int .u64 key),(.agg #[(.int .i64 x17),(.int .u16 x17v1),(.int .u16 x17v2)])] w3 fun v2 w4 =>
 ∃ x18 : Option Addr,v2 = (.pointer x18) /\
 (NILC x18 fun a22 =>
 RUNU PG (storeVar 25 (a22.add 28) (.int .u64 client)) w4 fun w5 =>
 NILC x18 fun a24 =>
 RUNU PG (storeVar 4 (a24.add 29) (.bool true)) w5 fun w6 =>
 CALL PG 9 [(.int .u64 client),(.int .u64 key)] w6 fun v3 w7 =>
 ∃ x29 : Int,∃ x29v1 : Int,∃ x29v2 : Int,∃ x29v3 : Int,∃ x29v4 : Int,∃ x29v5 : Int,∃ x29v6 : Int,∃ x29v7 : Int,∃ x29v8 : Int,v3 = (.agg #[(.int .u64 x29),(.int .u64 x29v1),(.int .u64 x29v2),(.int .u64 x29v3),(.int .u64 x29v4),(.int .u64 x29v5),(.int .u64 x29v6),(.int .u64 x29v7),(.int .u32 x29v8)]) /\
 (NILC x18 fun a30 =>
 RUNU PG (storeVar 56 (a30.add 0) (.agg #[(.int .u64 x29),(.int .u64 x29v1),(.int .u64 x29v2),(.int .u64 x29v3),(.int .u64 x29v4),(.int .u64 x29v5),(.int .u64 x29v6),(.int .u64 x29v7),(.int .u32 x29v8)])) w7 fun w8 =>
 RD PG (loadVar 24 a6) w8 fun v4 =>
 ∃ x32 : Int,∃ x32v1 : Int,∃ x32v2 : Int,∃ x32v3 : Int,∃ x32v4 : Int,∃ x32v5 : Int,∃ x32v6 : Int,∃ x32v7 : Int,∃ x32v8 : Int,∃ x32v9 : Int,∃ x32v10 : Int,∃ x32v11 : Int,∃ x32v12 : Int,∃ x32v13 : Int,∃ x32v14 : Int,v4 = (.agg #[(.int .i64 x32),(.int .i64 x32v1),(.int .i64 x32v2),(.int .i64 x32v3),(.int .i64 x32v4),(.int .i64 x32v5),(.int .i64 x32v6),(.int .i64 x32v7),(.int .i64 x32v8),(.int .i64 x32v9),(.int .i64 x32v10),(.int .i64 x32v11),(.int .i64 x32v12),(.int .i64 x32v13),(.int .i64 x32v14)]) /\
 (RD PG (loadVar 51 a8) w8 fun v5 =>
 ∃ x33 : Int,∃ x33v1 : Int,∃ x33v2 : Int,v5 = (.agg #[(.int .i64 x33),(.int .u16 x33v1),(.int .u16 x33v2)]) /\
 (CALL PG 38 [(.agg #[(.int .i64 x32),(.int .i64 x32v1),(.int .i64 x32v2),(.int .i64 x32v3),(.int .i64 x32v4),(.int .i64 x32v5),(.int .i64 x32v6),(.int .i64 x32v7),(.int .i64 x32v8),(.int .i64 x32v9),(.int .i64 x32v10),(.int .i64 x32v11),(.int .i64 x32v12),(.int .i64 x32v13),(.int .i64 x32v14)]),(.int .i64 0),(.agg #[(.int .i64 x33),(.int .u16 x33v1),(.int .u16 x33v2)]),(.int .u32 number)] w8 fun v6 w9 =>
 ∃ x35 : Option Addr,v6 = (.pointer x35) /\
 (NILC x35 fun a37 =>
 RUNU PG (storeVar 4 (a37.add 14) (.bool true)) w9 fun w10 =>
 RDI PG (loadVar 26 (a10.add 2)) .u32 w10 fun x41 =>
 CALL PG 83 [(.pointer x35),(.int .u32 x41)] w10 fun v7 w11 =>
 v7 = (.tuple #[]) /\
 (NILC x18 fun a45 =>
 RDL PG (loadVar 59 (a45.add 33)) w11 fun x47 x47N x47C =>
 RUNL PG (Instr.buildSlice 59 1 #[(0,(.pointer x35))]) w11 fun x49 x49N x49C w12 =>
 RUNL PG (Builtin.append_ #[59,59] 59 #[(.slice x47 x47N x47C),(.slice x49 x49N x49C)]) w12 fun x50 x50N x50C w13 =>
 NILC x18 fun a51 =>
 RUNU PG (storeVar 59 (a51.add 33) (.slice x50 x50N x50C)) w13 fun w14 =>
 CALL PG 84 [(.pointer x18),(.pointer x35)] w14 fun v8 w15 =>
 v8 = (.tuple #[]) /\
 (Q (.pointer x18) w15)))))))))
theorem call44 {c : Int} {c1 : Int} {c2 : Int} {c3 : Int} {c4 : Int} {c5 : Int} {c6 : Int} {c7 : Int} {c8 : Int} {c9 : Int} {c10 : Int} {c11 : Int} {c12 : Int} {c13 : Int} {c14 : Int} {key : Int} {first : Int} {first1 : Int} {first2 : Int} {number : Int} {s : Int} {s1 : Int} {s2 : Int} {s3 : Int} {s4 : Int} {s5 : Option Addr} {sN sC : Nat} {s6 : Option Addr} {sN1 sC1 : Nat} {client : Int} {w : World} {Q : QP} (h_ : N44 c c1 c2 c3 c4 c5 c6 c7 c8 c9 c10 c11 c12 c13 c14 key first first1 first2 number s s1 s2 s3 s4 s5 sN sC s6 sN1 sC1 client w Q) : CALL PG 44 [(.agg #[(.int .i64 c),(.int .i64 c1),(.int .i64 c2),(.int .i64 c3),(.int .i64 c4),(.int .i64 c5),(.int .i64 c6),(.int .i64 c7),(.int .i64 c8),(.int .i64 c9),(.int .i64 c10),(.int .i64 c11),(.int .i64 c12),(.int .i64 c13),(.int .i64 c14)]),(.int .u64 key),(.agg #[(.int .i64 first),(.int .u16 first1),(.int .u16 first2)]),(.int .u32 number),(.agg #[(.int .u16 s),(.int .u16 s1),(.int .u32 s2),(.int .u32 s3),(.int .u8 s4),(.slice s5 sN sC),(.slice s6 sN1 sC1)]),(.int .u64 client)] w Q:=calls_vq .nil tabOk Tryz.func44 (by kernel_rfl) h_
end Go.Br
/- A server's connection: the whole call. -/
set_option linter.unusedVariables false
set_option linter.unusedSimpArgs false
set_option linter.unnecessarySimpa false
namespace Go.Br
open Go
attribute [local irreducible] Addr.add RD RDS RUN RUNU NILC LETB CALL CALLX CALLV
def ansC (g : Cfg) (key cl path loc rem : Int) (n : Nms) (fA : Option Addr) (fC : Nat) (pA : Option Addr) (pN pC : Nat) (K : Ks) : Cn :=
 { cnF g 2 key path loc rem n.m n.o n.i n.y n.ad with theirs:=cl,keyed:=true,keysIDK0:=K.idK0,keysIDK1:=K.idK1,keysClientK0:=K.clientK0,keysClientK1:=K.clientK1,keysServerK0:=K.serverK0,keysServerK1:=K.serverK1,keysJoinK0:=K.joinK0,keysJoinK1:=K.joinK1,keysToken:=K.token,flows:=fA,flowsN:=1,flowsC:=fC,post:=pA,postN:=pN,postC:=pC }
def ansF (path loc rem first seq : Int) (n : Nms) : Fw:={ fwN 0 path loc rem first n.a n.b n.e with fst:=true,numState:=2,numWait:=IntKind.u32.wrap (seq + 1) }
abbrev ansP (g : Cfg) (path loc rem first seq : Int) (n : Nms) (fA : Option Addr) (fC : Nat) (L : List SA) : List SA :=
 blk n.f 111 (fwc (ansF path loc rem first seq n)) :: own 99 1 fA 1 fC [.pointer (some ⟨n.f,0,none⟩)] :: fwP g n.a n.b n.e (cnP g n.m n.o n.r n.bb n.i n.s n.r2 n.b2 n.y n.ad n.bk (own 3 1 (some ⟨n.m,0,none⟩) 1 1 [.int .i64 path] :: L))
section
variable {c : Ctx} {w : World} {L R : List SA}
theorem answer_ok (h : St c w L) {g : Cfg} (hg : CfgOk g) {key cl path loc rem first : Int} {s : Sg} (hkey : 0 <= key /\ key < 18446744073709551616) (h1 : 0 <= loc /\ loc < 65536) (h2 : 0 <= rem /\ rem < 65536) (h3 : 0 <= first /\ first < 4294967296) {Q : Value -> World -> Prop}
  (hk : ∀ n fA fC pA pC p w',p.path = path -> PkEq p (encB (ansS (ansF path loc rem first s.seq n) key cl)) -> St c w' (blk n.x 67 (cnc (ansC g key cl path loc rem n fA fC pA 1 pC (sessK cl key))) :: own 115 2 pA 1 pC (([p] : List Pkt).flatMap pkc) :: bodP [p] :: ansP g path loc rem first s.seq n fA fC L) -> Q (.pointer (some ⟨n.x,0,none⟩)) w') :
  CALL PG 44 [cfgv g,.int .u64 key,.agg #[.int .i64 path,.int .u16 loc,.int .u16 rem],.int .u32 first,sgv s,.int .u64 cl] w Q:=by
 refine call44 ?_
 unfold N44
 refine h.box (vs:=cfg g) fun q w' h => ?_
 refine h.box fun q2 w' h => ?_
 refine h.box (vs:=sgc s) fun q3 w' h => ?_
 refine h.rdG (B:=q) ?_
 (repeat apply exi)
 apply exr
 refine h.rdG (B:=q2) ?_
 (repeat apply exi)
 apply exr
 refine fresh_ok h hg fun x m o r bb i sp r2 b2 y ad bk w' h => ?_
 (repeat apply exi)
 apply exr
 refine nilc (h.st (B:=x) 28 fun w' h => nilc ?_)
 refine h.st (B:=x) 29 fun w' h => ?_
 refine session_ok h fun w' h => ?_
 generalize sessK cl key = K at hk ⊢
 (repeat apply exi)
 apply exr
 refine nilc ?_
 refine h.stGo (B:=x) 0 (vs:=ksc K) (fun w' h => ?_)
 refine h.rdG (B:=q) ?_
 (repeat apply exi)
 apply exr
 refine h.rdG (B:=q2) ?_
 (repeat apply exi)
 apply exr
 refine flownew_ok h hg fun f a b e w' h => ?_
 (repeat apply exi)
 apply exr
 refine nilc (h.st (B:=f) 14 fun w' h => ?_)
 refine h.rdI (B:=q3) 2 ?_
 refine asked_ok (F:={ fwN 0 path loc rem first a b e with fst:=true }) (seq:=s.seq) h fun w' h => ⟨rfl,nilc ?_⟩
 refine h.rdL (B:=x) 33 ?_
 have h:=h.addOwnNil 99 1
 refine h.app1 huFlowps tiFlowp [.pointer (some ⟨f,0,none⟩)] .head (by intro v hv; simp at hv; rw [hv]; rfl) (show (0 + 1) * 8 <= 140737488355328 by decide) fun fA fC w' h => nilc ?_
 refine h.st (B:=x) 33 fun w' h => ?_
 have h:=(h.addOwnNil 115 2).addBod0
 have h:=h.sub (show Sub _ (blk x 67 (cnc (ansC g key cl path loc rem ⟨x,f,a,b,e,m,o,r,bb,i,sp,r2,b2,y,ad,bk⟩ fA fC none 0 0 K)) :: blk f 111 (fwc (ansF path loc rem first s.seq ⟨x,f,a,b,e,m,o,r,bb,i,sp,r2,b2,y,ad,bk⟩)) :: own 115 2 none 0 0 (([] : List Pkt).flatMap pkc) :: bodP [] ::
  own 99 1 fA 1 fC [.pointer (some ⟨f,0,none⟩)] :: fwP g a b e (cnP g m o r bb i sp r2 b2 y ad bk (own 3 1 (some ⟨m,0,none⟩) 1 1 [.int .i64 path] :: L))) from
   (.cons (.tail (.tail .head)) (.cons (.tail (.tail (.tail .head))) (.cons (.tail .head) (.cons .head (.cons .head (.cons .head (.cons .head (.cons .head (.cons .head (.cons .head (.cons .head (.cons .head (.cons .head (.cons .head (.cons .head (.cons .head (.cons .head (.cons .head (.cons .head ((Sub.same _).more.more.more)))))))))))))))))))))
 refine creply1_ok h (show 0 <= 100000 by decide) rfl ⟨h1,h2,h3,?_⟩ hkey fun O d p w' e1 e2 h => ⟨rfl,?_⟩
 ·show 0 <= IntKind.u32.wrap (s.seq + 1) /\ IntKind.u32.wrap (s.seq + 1) < 4294967296
  rw [wrapU32]
  omega
 refine hk ⟨x,f,a,b,e,m,o,r,bb,i,sp,r2,b2,y,ad,bk⟩ fA fC O d p _ e1 e2 ?_
 exact h.sub (.cons .head (.cons (.tail .head) (.cons (.tail .head) (.cons .head ((Sub.same _))))))
end
end Go.Br
/- What the code of some functions says,as the core reads it; each reading is checked by the kernel. -/
set_option linter.unusedVariables false
set_option maxRecDepth 100000
namespace Go.Br
open Go Go.Proofs
def N45 (x : Option Addr) (e : Int) (e1 : Int) (e2 : Int) (w : World) (Q : QP) : Prop :=
 RUNA PG (Instr.box 51 (.agg #[(.int .i64 e),(.int .u16 e1),(.int .u16 e2)])) w fun a3 w1 =>
 NILC x fun a8 =>
 RDL PG (loadVar 59 (a8.add 33)) w1 fun x10 x10N x10C =>
 ∃ I : Nat -> Int -> World -> Prop,
 (∃ m,I m 0 w1) /\
 (∀ m1 (x12 : Int) (w2 : World),I m1 x12 w2 -> (IFB (decide (x12 < (x10N : Int)))
 (IDX x10 x10N x12 fun a14 =>
 RDP PG (loadVar 99 (a14.add (Int.toNat x12 * 1))) w2 fun x15 =>
 ∃ S : World -> Prop,S (w2.drew) /\
 (RDS PG (loadVar 51 a3) S fun v =>
 ∃ x18 : Int,∃ x18v1 : Int,∃ x18v2 : Int,v = (.agg #[(.int .i64 x18),(.int .u16 x18v1),(.int .u16 x18v2)]) /\
 (CALL PG 85 [(.pointer x15)] (w2.drew) fun v1 w3 =>
 ∃ x17 : Int,∃ x17v1 : Int,∃ x17v2 : Int,v1 = (.agg #[(.int .i64 x17),(.int .u16 x17v1),(.int .u16 x17v2)]) /\
 (∃ S1 : World -> Prop,(∀ x,S1 x -> S x) /\ S1 w3 /\
 (RDSB PG (do eqGuard .eql 51 (.tmp 17) (.tmp 18) (.agg #[(.int .i64 x17),(.int .u16 x17v1),(.int .u16 x17v2)]) (.agg #[(.int .i64 x18),(.int .u16 x18v1),(.int .u16 x18v2)]); binOp .eql 51 (.agg #[(.int .i64 x17),(.int .u16 x17v1),(.int .u16 x17v2)]) (.agg #[(.int .i64 x18),(.int .u16 x18v1),(.int .u16 x18v2)])) S1 fun x19 =>
 IFB x19
 (Q (.pointer x15) w3)
 (∃ m2,m2 < m1 /\ I m2 (IntKind.i64.wrap (x12 + 1)) w3))))))
 (Q (.pointer none) w2)))
theorem call45 {x : Option Addr} {e : Int} {e1 : Int} {e2 : Int} {w : World} {Q : QP} (h_ : N45 x e e1 e2 w Q) : CALL PG 45 [(.pointer x),(.agg #[(.int .i64 e),(.int .u16 e1),(.int .u16 e2)])] w Q:=calls_vq (.s .nil (.s (.s .nil (.u (.loop [(12,3)] .nil))) .nil)) tabOk Tryz.func45 (by kernel_rfl) h_
def N85 (f : Option Addr) (w : World) (Q : QP) : Prop :=
 RUNA PG (Instr.alloc 51 true (.tuple #[])) w fun a2 w1 =>
 NILC f fun a4 =>
 RDI PG (loadVar 3 (a4.add 10)) .i64 (w1.drew) fun x6 =>
 NILC f fun a8 =>
 RDI PG (loadVar 49 (a8.add 11)) .u16 (w1.drew) fun x10 =>
 NILC f fun a12 =>
 RDI PG (loadVar 49 (a12.add 12)) .u16 (w1.drew) fun x14 =>
 RD PG (Instr.build 51 #[(0,(.int .i64 x6)),(1,(.int .u16 x10)),(2,(.int .u16 x14))]) (w1.drew) fun v =>
 ∃ x15 : Int,∃ x15v1 : Int,∃ x15v2 : Int,v = (.agg #[(.int .i64 x15),(.int .u16 x15v1),(.int .u16 x15v2)]) /\
 (RUNU PG (storeVar 51 a2 (.agg #[(.int .i64 x15),(.int .u16 x15v1),(.int .u16 x15v2)])) (w1.drew) fun w2 =>
 RD PG (loadVar 51 a2) w2 fun v2 =>
 ∃ r : Int,∃ r1 : Int,∃ r2 : Int,v2 = (.agg #[(.int .i64 r),(.int .u16 r1),(.int .u16 r2)]) /\
 (Q (.agg #[(.int .i64 r),(.int .u16 r1),(.int .u16 r2)]) w2))
theorem call85 {f : Option Addr} {w : World} {Q : QP} (h_ : N85 f w Q) : CALL PG 85 [(.pointer f)] w Q:=calls_vq .nil tabOk Tryz.func85 (by kernel_rfl) h_
end Go.Br
/- The path of a connection that ends somewhere: of a connection with one path. -/
set_option linter.unusedVariables false
set_option linter.unusedSimpArgs false
set_option linter.unnecessarySimpa false
namespace Go.Br
open Go
instance biConnOna (x0 : Int) (x1 : Int) (x2 : Int) : Bld PG (Instr.build 51 #[(0,.int .i64 x0),(1,.int .u16 x1),(2,.int .u16 x2)]) (.agg #[.int .i64 x0,.int .u16 x1,.int .u16 x2]):=⟨fun w => by kernel_rfl⟩
instance biConnOnb : Zro PG 51 3 16 (.agg #[.int .i64 0,.int .u16 0,.int .u16 0]):=⟨tiOf (by kernel_rfl)⟩
attribute [local irreducible] Addr.add RD RDS RUN RUNU NILC LETB CALL CALLX CALLV
section
variable {c : Ctx} {w : World} {L R : List SA}
theorem fends_ok {f : Nat} {F : Fw} (h : St c w (blk f 111 (fwc F) :: L)) {Q : Value -> World -> Prop} (hk : ∀ w',St c w' (blk f 111 (fwc F) :: L) -> Q (.agg #[.int .i64 F.path,.int .u16 F.loc,.int .u16 F.rem]) w') : CALL PG 85 [.pointer (some ⟨f,0,none⟩)] w Q:=by
 refine call85 ?_
 unfold N85
 refine h.allocZ fun q w' h => ?_
 have h:=h.drew
 refine nilc (h.rdI (B:=f) 10 (nilc (h.rdI (B:=f) 11 (nilc (h.rdI (B:=f) 12 ?_)))))
 refine RD.bld ?_
 (repeat apply exi)
 apply exr
 refine h.stG (B:=q) fun w' h => ?_
 refine h.rdG (B:=q) ?_
 (repeat apply exi)
 apply exr
 exact hk _ h.drop
theorem on1_ok {x f d : Nat} {X : Cn} {F : Fw} {A : Option Addr} {e0 e1 e2 : Int} (h : St c w (blk x 67 (cnc { X with flows:=A,flowsN:=1,flowsC:=d }) :: own 99 1 A 1 d [.pointer (some ⟨f,0,none⟩)] :: blk f 111 (fwc F) :: L)) {Q : Value -> World -> Prop}
  (hk : ∀ w',St c w' (blk x 67 (cnc { X with flows:=A,flowsN:=1,flowsC:=d }) :: own 99 1 A 1 d [.pointer (some ⟨f,0,none⟩)] :: blk f 111 (fwc F) :: L) -> Q (.pointer (if F.path = e0 /\ F.loc = e1 /\ F.rem = e2 then some ⟨f,0,none⟩ else none)) w') :
  CALL PG 45 [.pointer (some ⟨x,0,none⟩),.agg #[.int .i64 e0,.int .u16 e1,.int .u16 e2]] w Q:=by
 refine call45 ?_
 unfold N45
 refine h.box fun q w' h => nilc ?_
 refine h.rdL (B:=x) 33 ?_
 refine ⟨fun m y w => ((m = 1 /\ y = 0) ∨ (m = 0 /\ y = 1 /\ ¬ (F.path = e0 /\ F.loc = e1 /\ F.rem = e2))) /\ St c w (blk q 51 [.int .i64 e0,.int .u16 e1,.int .u16 e2] :: blk x 67 (cnc { X with flows:=A,flowsN:=1,flowsC:=d }) :: own 99 1 A 1 d [.pointer (some ⟨f,0,none⟩)] :: blk f 111 (fwc F) :: L),⟨1,.inl ⟨rfl,rfl⟩,h⟩,?_⟩
 clear h
 rintro m y w' ⟨⟨rfl,rfl⟩ | ⟨rfl,rfl,hne⟩,h⟩
 rotate_left
 ·have:=hk _ h.drop
  rw [if_neg hne] at this
  exact ifdf (by show ¬ ((1 : Int) < 1); decide) this
 refine ifdt (by show (0 : Int) < 1; decide) ?_
 have hr : RdIn (blk q 51 [.int .i64 e0,.int .u16 e1,.int .u16 e2] :: blk x 67 (cnc { X with flows:=A,flowsN:=1,flowsC:=d }) :: own 99 1 A 1 d [.pointer (some ⟨f,0,none⟩)] :: blk f 111 (fwc F) :: L) A (([some ⟨f,0,none⟩] : List (Option Addr)).flatMap fun x => [.pointer x]):=RdIn.own (.tail (.tail .head))
 refine h.ix (z:=0) (i:=0) hr rfl (fun b hb => ?_) (by show 0 < 1; decide)
 subst hb
 refine h.rdWP (g:=fun x => [.pointer x]) (Y:=[some ⟨f,0,none⟩]) (i:=0) hr rfl ?_
 have h:=h.drew
 refine ⟨fun w => St c w [blk q 51 [.int .i64 e0,.int .u16 e1,.int .u16 e2]],h.sub (.cons .head (.nil)),?_⟩
 refine St.rdsG (B:=q) ?_
 (repeat apply exi)
 apply exr
 refine fends_ok (h.sub (show Sub _ (blk f 111 (fwc F) :: blk q 51 [.int .i64 e0,.int .u16 e1,.int .u16 e2] :: blk x 67 (cnc { X with flows:=some b,flowsN:=1,flowsC:=d }) :: own 99 1 (some b) 1 d [.pointer (some ⟨f,0,none⟩)] :: L) from (.cons (.tail (.tail (.tail .head))) (.cons .head (.cons .head (.cons .head ((Sub.same _)))))))) fun w' h => ?_
 (repeat apply exi)
 apply exr
 refine ⟨_,fun _ h => h,h.sub (.cons (.tail .head) (.nil)),?_⟩
 refine RDSB.eqN (F.path == e0 && (F.loc == e1 && (F.rem == e2 && true))) ?_
 have h:=h.sub (show Sub _ (blk q 51 [.int .i64 e0,.int .u16 e1,.int .u16 e2] :: blk x 67 (cnc { X with flows:=some b,flowsN:=1,flowsC:=d }) :: own 99 1 (some b) 1 d [.pointer (some ⟨f,0,none⟩)] :: blk f 111 (fwc F) :: L) from (.cons (.tail .head) (.cons (.tail .head) (.cons (.tail .head) (.cons .head ((Sub.same _)))))))
 refine ifb (fun he => ?_) fun he => ?_
 ·have:=hk _ h.drop
  rw [if_pos (by simpa using he)] at this
  exact this
 ·refine ⟨0,by decide,.inr ⟨rfl,by rw [wrap_i64 (by decide) (by decide)]; rfl,fun hc => ?_⟩,h⟩
  rw [hc.1,hc.2.1,hc.2.2] at he
  simp at he
end
end Go.Br
/- Two arrays of numbers that are the same. -/
set_option linter.unusedVariables false
set_option linter.unusedSimpArgs false
set_option linter.unnecessarySimpa false
namespace Go.Br
open Go
attribute [local irreducible] Addr.add RD RDS RUN RUNU NILC LETB CALL CALLX CALLV
end Go.Br
