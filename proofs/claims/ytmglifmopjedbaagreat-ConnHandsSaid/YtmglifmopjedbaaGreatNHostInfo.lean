/- What the code of some functions says, as the core reads it; each reading is checked by the kernel. -/
import Derived.Test.YtmglifmopjedbaaGreatBrSeat
set_option linter.unusedVariables false
set_option maxRecDepth 100000
namespace Go.Br
open Go Go.Proofs
def N8 (x : Option Addr) (w : World) (Q : QP) : Prop :=
 RUNA PG (Instr.alloc 53 true (.tuple #[])) w fun a2 w1 =>
 ∃ S : World -> Prop,S (w1.drew) /\
 (NILC x fun a4 =>
 RDSI PG (loadVar 39 (a4.add 25)) .i64 S fun x6 =>
 NILC x fun a8 =>
 RDSI PG (loadVar 47 (a8.add 26)) .i64 S fun x10 =>
 NILC x fun a12 =>
 RDSI PG (loadVar 48 (a12.add 24)) .i64 S fun x14 =>
 NILC x fun a16 =>
 RDS PG (loadVar 28 ((a16.add 0).add 0)) S fun v =>
 ∃ x19 : Int,∃ x19v1 : Int,v = (.agg #[(.int .u64 x19),(.int .u64 x19v1)]) /\
 (NILC x fun a21 =>
 RDS PG (loadVar 51 (a21.add 30)) S fun v1 =>
 ∃ x23 : Int,∃ x23v1 : Int,∃ x23v2 : Int,v1 = (.agg #[(.int .i64 x23),(.int .u16 x23v1),(.int .u16 x23v2)]) /\
 (NILC x fun a25 =>
 RDSP PG (loadVar 60 (a25.add 35)) S fun x27 =>
 NILC x fun a30 =>
 RDSP PG (loadVar 60 (a30.add 35)) S fun x32 =>
 NILC x fun a35 =>
 RDSP PG (loadVar 61 (a35.add 36)) S fun x37 =>
 NILC x fun a40 =>
 RDSP PG (loadVar 61 (a40.add 36)) S fun x42 =>
 NILC x fun a45 =>
 RDSP PG (loadVar 60 (a45.add 35)) S fun x47 =>
 NILC x fun a50 =>
 RDSP PG (loadVar 61 (a50.add 36)) S fun x52 =>
 NILC x fun a55 =>
 RDSI PG (loadVar 3 (a55.add 45)) .i64 S fun x57 =>
 NILC x fun a59 =>
 RDSL PG (loadVar 59 (a59.add 33)) S fun x61 x61N x61C =>
 NILC x fun a64 =>
 RDSP PG (loadVar 62 (a64.add 37)) S fun x66 =>
 NILC x fun a69 =>
 RDSP PG (loadVar 60 (a69.add 35)) S fun x71 =>
 NILC x71 fun a72 =>
 RDSP PG (loadVar 90 (a72.add 0)) S fun x74 =>
 NILC x fun a77 =>
 RDSP PG (loadVar 61 (a77.add 36)) S fun x79 =>
 NILC x79 fun a80 =>
 RDSP PG (loadVar 90 (a80.add 0)) S fun x82 =>
 CALL PG 24 [(.pointer x27)] (w1.drew) fun v2 w2 =>
 ∃ x28 : Int,v2 = (.int .u64 x28) /\
 (∃ S1 : World -> Prop,(∀ x,S1 x -> S x) /\ S1 w2 /\
 (CALL PG 25 [(.pointer x32)] w2 fun v3 w3 =>
 ∃ x33 : Int,v3 = (.int .u64 x33) /\
 (∃ S2 : World -> Prop,(∀ x,S2 x -> S1 x) /\ S2 w3 /\
 (CALL PG 26 [(.pointer x37)] w3 fun v4 w4 =>
 ∃ x38 : Int,v4 = (.int .u64 x38) /\
 (∃ S3 : World -> Prop,(∀ x,S3 x -> S2 x) /\ S3 w4 /\
 (CALL PG 27 [(.pointer x42)] w4 fun v5 w5 =>
 ∃ x43 : Int,v5 = (.int .u64 x43) /\
 (∃ S4 : World -> Prop,(∀ x,S4 x -> S3 x) /\ S4 w5 /\
 (CALL PG 28 [(.pointer x47)] w5 fun v6 w6 =>
 ∃ x48 : Bool,v6 = (.bool x48) /\
 (∃ S5 : World -> Prop,(∀ x,S5 x -> S4 x) /\ S5 w6 /\
 (CALL PG 29 [(.pointer x52)] w6 fun v7 w7 =>
 ∃ x53 : Bool,v7 = (.bool x53) /\
 (∃ S6 : World -> Prop,(∀ x,S6 x -> S5 x) /\ S6 w7 /\
 (CALL PG 30 [(.pointer x66)] w7 fun v8 w8 =>
 ∃ x67 : Int,v8 = (.int .i64 x67) /\
 (∃ S7 : World -> Prop,(∀ x,S7 x -> S6 x) /\ S7 w8 /\
 (CALL PG 31 [(.pointer x74)] w8 fun v9 w9 =>
 ∃ x75 : Int,v9 = (.int .i64 x75) /\
 (∃ S8 : World -> Prop,(∀ x,S8 x -> S7 x) /\ S8 w9 /\
 (CALL PG 31 [(.pointer x82)] w9 fun v10 w10 =>
 ∃ x83 : Int,v10 = (.int .i64 x83) /\
 (∃ S9 : World -> Prop,(∀ x,S9 x -> S8 x) /\ S9 w10 /\
 (RDS PG (Instr.build 53 #[(0,(.int .i64 x6)),(1,(.int .i64 x10)),(2,(.int .i64 x14)),(3,(.agg #[(.int .u64 x19),(.int .u64 x19v1)])),(4,(.agg #[(.int .i64 x23),(.int .u16 x23v1),(.int .u16 x23v2)])),(5,(.int .u64 x28)),(6,(.int .u64 x33)),(7,(.int .u64 x38)),(8,(.int .u64 x43)),(9,(.bool x48)),(10,(.bool x53)),(11,(.int .i64 x57)),(12,(.int .i64 (x61N : Int))),(13,(.int .i64 x67)),(14,(.int .i64 (IntKind.i64.wrap (x75 + x83))))]) S9 fun v11 =>
 ∃ x85 : Int,∃ x85v1 : Int,∃ x85v2 : Int,∃ x85v3 : Int,∃ x85v4 : Int,∃ x85v5 : Int,∃ x85v6 : Int,∃ x85v7 : Int,∃ x85v8 : Int,∃ x85v9 : Int,∃ x85v10 : Int,∃ x85v11 : Int,∃ x85v12 : Bool,∃ x85v13 : Bool,∃ x85v14 : Int,∃ x85v15 : Int,∃ x85v16 : Int,∃ x85v17 : Int,v11 = (.agg #[(.int .i64 x85),(.int .i64 x85v1),(.int .i64 x85v2),(.int .u64 x85v3),(.int .u64 x85v4),(.int .i64 x85v5),(.int .u16 x85v6),(.int .u16 x85v7),(.int .u64 x85v8),(.int .u64 x85v9),(.int .u64 x85v10),(.int .u64 x85v11),(.bool x85v12),(.bool x85v13),(.int .i64 x85v14),(.int .i64 x85v15),(.int .i64 x85v16),(.int .i64 x85v17)]) /\
 (RUNU PG (storeVar 53 a2 (.agg #[(.int .i64 x85),(.int .i64 x85v1),(.int .i64 x85v2),(.int .u64 x85v3),(.int .u64 x85v4),(.int .i64 x85v5),(.int .u16 x85v6),(.int .u16 x85v7),(.int .u64 x85v8),(.int .u64 x85v9),(.int .u64 x85v10),(.int .u64 x85v11),(.bool x85v12),(.bool x85v13),(.int .i64 x85v14),(.int .i64 x85v15),(.int .i64 x85v16),(.int .i64 x85v17)])) w10 fun w11 =>
 RD PG (loadVar 53 a2) w11 fun v13 =>
 ∃ r : Int,∃ r1 : Int,∃ r2 : Int,∃ r3 : Int,∃ r4 : Int,∃ r5 : Int,∃ r6 : Int,∃ r7 : Int,∃ r8 : Int,∃ r9 : Int,∃ r10 : Int,∃ r11 : Int,∃ r12 : Bool,∃ r13 : Bool,∃ r14 : Int,∃ r15 : Int,∃ r16 : Int,∃ r17 : Int,v13 = (.agg #[(.int .i64 r),(.int .i64 r1),(.int .i64 r2),(.int .u64 r3),(.int .u64 r4),(.int .i64 r5),(.int .u16 r6),(.int .u16 r7),(.int .u64 r8),(.int .u64 r9),(.int .u64 r10),(.int .u64 r11),(.bool r12),(.bool r13),(.int .i64 r14),(.int .i64 r15),(.int .i64 r16),(.int .i64 r17)]) /\
 (Q (.agg #[(.int .i64 r),(.int .i64 r1),(.int .i64 r2),(.int .u64 r3),(.int .u64 r4),(.int .i64 r5),(.int .u16 r6),(.int .u16 r7),(.int .u64 r8),(.int .u64 r9),(.int .u64 r10),(.int .u64 r11),(.bool r12),(.bool r13),(.int .i64 r14),(.int .i64 r15),(.int .i64 r16),(.int .i64 r17)]) w11)))))))))))))))))))))))
theorem call8 {x : Option Addr} {w : World} {Q : QP} (h_ : N8 x w Q) : CALL PG 8 [(.pointer x)] w Q:=calls_vq .nil tabOk Tryz.func8 (by kernel_rfl) h_
def N25 (o : Option Addr) (w : World) (Q : QP) : Prop :=
 NILC o fun a4 =>
 RDI PG (loadVar 25 (a4.add 1)) .u64 w fun x6 =>
 LETI x6 fun x2 =>
 Q (.int .u64 x2) w
theorem call25 {o : Option Addr} {w : World} {Q : QP} (h_ : N25 o w Q) : CALL PG 25 [(.pointer o)] w Q:=calls_vq .nil tabOk Tryz.func25 (by kernel_rfl) h_
def N30 (x : Option Addr) (w : World) (Q : QP) : Prop :=
 NILC x fun a4 =>
 RDL PG (loadVar 153 (a4.add 1)) w fun x6 x6N x6C =>
 LETI (x6N : Int) fun x2 =>
 Q (.int .i64 x2) w
theorem call30 {x : Option Addr} {w : World} {Q : QP} (h_ : N30 x w Q) : CALL PG 30 [(.pointer x)] w Q:=calls_vq .nil tabOk Tryz.func30 (by kernel_rfl) h_
def N64 (r : Option Addr) (w : World) (Q : QP) : Prop :=
 NILC r fun a4 =>
 RDI PG (loadVar 3 (a4.add 2)) .i64 w fun x6 =>
 LETI x6 fun x2 =>
 Q (.int .i64 x2) w
theorem call64 {r : Option Addr} {w : World} {Q : QP} (h_ : N64 r w Q) : CALL PG 64 [(.pointer r)] w Q:=calls_vq .nil tabOk Tryz.func64 (by kernel_rfl) h_
end Go.Br
