/- What the code of some functions says, as the core reads it; each reading is checked by the kernel. -/
import Derived.Test.YtmglifmopjedbaaGreatBrSeat
set_option linter.unusedVariables false
set_option maxRecDepth 100000
namespace Go.Br
open Go Go.Proofs
def N9 (client : Int) (server : Int) (w : World) (Q : QP) : Prop :=
 RUNA PG (Instr.alloc 56 true (.tuple #[])) w fun a4 w1 =>
 RD PG (Instr.build 28 #[(0,(.int .u64 client)),(1,(.int .u64 server))]) w1 fun v =>
 ∃ x8 : Int,∃ x8v1 : Int,v = (.agg #[(.int .u64 x8),(.int .u64 x8v1)]) /\
 (RUNA PG (Instr.alloc 28 true (.tuple #[])) w1 fun a5 w2 =>
 RUNU PG (storeVar 28 a5 (.agg #[(.int .u64 x8),(.int .u64 x8v1)])) w2 fun w3 =>
 ∃ R : World -> Prop,
 (vcInv PG TB 36 (regAt Tryz.f9 2) [(5,(.pointer (some a5))),(8,(.agg #[(.int .u64 x8),(.int .u64 x8v1)])),(7,(.int .u64 server)),(6,(.int .u64 client)),(4,(.pointer (some a4))),(0,(.int .u64 client)),(1,(.int .u64 server))] (w3.drew) fun ρ w => JOIN PG [] R ρ w) /\
 (∀  (w4 : World),R w4 -> (RD PG (loadVar 56 a4) w4 fun v2 =>
 ∃ r : Int,∃ r1 : Int,∃ r2 : Int,∃ r3 : Int,∃ r4 : Int,∃ r5 : Int,∃ r6 : Int,∃ r7 : Int,∃ r8 : Int,v2 = (.agg #[(.int .u64 r),(.int .u64 r1),(.int .u64 r2),(.int .u64 r3),(.int .u64 r4),(.int .u64 r5),(.int .u64 r6),(.int .u64 r7),(.int .u32 r8)]) /\
 (Q (.agg #[(.int .u64 r),(.int .u64 r1),(.int .u64 r2),(.int .u64 r3),(.int .u64 r4),(.int .u64 r5),(.int .u64 r6),(.int .u64 r7),(.int .u32 r8)]) w4))))
theorem call9 {client : Int} {server : Int} {w : World} {Q : QP} (h_ : N9 client server w Q) : CALL PG 9 [(.int .u64 client),(.int .u64 server)] w Q:=calls_vq (.s .nil (.s .nil (.cut [] .inv .nil))) tabOk Tryz.func9 (by kernel_rfl) h_
end Go.Br
